/- Plain lemmas and contracts of this session, of which the parts' own heads tell. -/
import Derived.Test.YtcklefgkbddlhaaPx22
import Derived.Test.YtcklefgkbddlhaaBaseAll
import Derived.Test.YtcklefgkbddlhaaPx21
import Derived.Test.YtcklefgkbddlhaaPx10
/- laws.markFractionSS: what a call of it comes to at rows that are apart. -/
namespace Go.Proofs.Ytcklefgkbddlhaa.Nest
open Go.RowKit Go.Proofs.Ytcklefgkbddlhaa.P Go.Proofs.Ytcklefgkbddlhaa.Pure Go.Proofs.YtcklefgkbddlhaaW.PrintWords Go.Proofs.YtcklefgkbddlhaaW.PrintLast Go.Proofs.YtcklefgkbddlhaaW.PrintMore
set_option linter.unusedVariables false
set_option linter.unusedSimpArgs false

set_option maxHeartbeats 4000000 in
set_option maxRecDepth 10000 in
theorem markFractionSS_calls (P : Nat → Prop) (v : Value) (l : List (List S27)) (m : Int) (w0 w : World) (hB : Below w0.heap.size w0 w) (ho : Kd.S (Kd.slice 27 k27) 77 w w0.heap.size P v l) (h0 : 0 ≤ m) (h1 : m ≤ 4000000) (hl : l.length ≤ 4000000) (ht : totF l ≤ 4000000) :
    Calls Try.prog 26 #[v, .int .i64 m] w fun e w' => e = .returned (.int .i64 (m + 2 * totF l)) ∧ Kd.S (Kd.slice 27 k27) 77 w' w0.heap.size P v (fmarks2 m l) ∧ Below w0.heap.size w0 w' ∧ Kept w w' P := by
  obtain ⟨A, c, rfl, hc⟩ := Kd.S_reads ho

  have HS := Aside0.mk ho
  have HB := Aside0.mk hB
  have HT := Aside0.mk ht
  clear ho hB hc ht
  go_enter Try.func26, Try.ntmps26
  go_wp2
  go_loopg [1, 5] l.length (fun gg u1 u5 wr => ∃ i : Nat, i ≤ l.length ∧ l.length - i ≤ gg ∧ u1 = .int .i64 (m + 2 * totF (l.take i)) ∧ u5 = .int .i64 i ∧ Aside0 (Kd.S (Kd.slice 27 k27) 77 wr w0.heap.size P (.slice A l.length c) (fmarks2 m (l.take i) ++ l.drop i)) ∧ Aside0 (Below w0.heap.size w0 wr) ∧ Aside0 (Kept w wr P))
  case atStart => exact ⟨0, Nat.zero_le _, by omega, by simp [totF], rfl, ⟨by simpa [fmarks2] using HS.out⟩, HB, ⟨Kept.refl _ _⟩⟩
  case round =>
    obtain ⟨i, hi, hg, rfl, rfl, HSi, HBi, HKi⟩ := hrel
    by_cases hlt : i < l.length
    · have hltz : (i : Int) < (l.length : Int) := by omega
      have hln : (fmarks2 m (l.take i) ++ l.drop i).length = l.length := by simp [fmarks2_length]; omega
      have hpos := Kd.R_form (Kd.S_R HSi.out) (by omega)
      obtain ⟨g, cap, e1, hg1, hg2, cells, hcells⟩ := hpos
      injection e1 with e1 e2 e3
      subst e1 e3
      clear e2
      obtain ⟨oki, cs, hcs, hM, hcell, hoki, hH⟩ := Kd.S_lend HSi.out ([] : List S27) (i : Int) (by omega) (by omega)
      have hget : (fmarks2 m (l.take i) ++ l.drop i).getD (i : Int).toNat ([] : List S27) = l[i] := by
        rw [Int.toNat_natCast, List.getD_eq_getElem?_getD, List.getElem?_append_right (by simp [fmarks2_length]; omega)]
        simp [fmarks2_length, Nat.min_eq_left hi, show i < l.length by omega]
      rw [hget] at hM
      obtain ⟨v', rfl, hR⟩ := hM
      have hcellv := hcell 0 v' rfl
      obtain ⟨A', c', rfl, hcc', hCC⟩ := Kd.R_reads hR
      have hcell0 : wr.cell? ⟨g, i, none⟩ = some (.slice A' l[i].length c') := by
        have : (i : Int).toNat * (Kd.slice 27 k27).sz + 0 = i := by show (i : Int).toNat * 1 + 0 = i; omega
        rw [this] at hcellv; exact hcellv
      have hr1 := totF_take_succ l i hlt
      have hr2 := take_totF_le l (i + 1)
      have hT := HT.out
      have HMk := Aside0.mk (markFractionS_f (l[i].length + 1) l[i] (m + 2 * totF (l.take i)) (by omega) (by omega) (by omega) (by omega))
      have HH := Aside0.mk hH
      have HR := Aside0.mk hR
      have HO := Aside0.mk hoki
      have e4 : m + 2 * (totF (l.take i) : Int) + 2 * (l[i].length : Int) = m + 2 * (totF (l.take (i + 1)) : Int) := by omega
      have E4 := Aside0.mk e4
      have HE := Aside0.mk hr1
      have HLN := Aside0.mk hln
      clear hH hR hcell hcellv hoki hget hCC hcells hr1 e4 hT hr2 hcs hln hcc'
      generalize hrow : l[i] = row at *
      have HROW := Aside0.mk hrow
      clear hrow
      go_wp2_with (go_at_call 66; refine (laws_markFractionS.calls (row.length + 1) oki (.slice A' row.length c') row (m + 2 * totF (l.take i)) _ _ w0 _ HBi.out HR.out HMk.out).mono ?_; rw [E4.out]; rintro e w' ⟨rfl, hR', hB', hK'⟩)
      go_roundg (l.length - (i + 1))
      case measure => omega
      case rel =>
        refine ⟨i + 1, by omega, by omega, rfl, by go_num, ⟨?_⟩, ⟨hB'⟩, ⟨HKi.out.then_ hK' (fun k hk => .inl (HO.out k hk).1)⟩⟩
        have h2 := Kd.H_back (Kd.H_kept HH.out hK' (fun k _ hn => hn)) (okp := fun k => some k = (Value.slice A' row.length c').ownBlock) (x' := fmarks (m + 2 * totF (l.take i)) row.length) ⟨_, rfl, Kd.R_tight rfl hR'⟩ (fun k hk => HR.out.1 k hk.symm)
        have e5 : (fmarks2 m (l.take i) ++ l.drop i).set (i : Int).toNat (fmarks (m + 2 * totF (l.take i)) row.length) = fmarks2 m (l.take (i + 1)) ++ l.drop (i + 1) := by
          rw [Int.toNat_natCast, set_midF _ _ _ _ (by rw [fmarks2_length, List.length_take]; omega) hlt, List.take_succ_eq_append_getElem hlt, HROW.out, fmarks2_snoc]
        rw [e5] at h2
        exact h2
    · have hltz : ¬ (i : Int) < (l.length : Int) := by omega
      have hii : i = l.length := by omega
      subst hii
      go_wp2
      go_ret
      refine ⟨?_, ?_, HBi.out, HKi.out⟩
      · simp
      · have := HSi.out
        simpa using this
end Go.Proofs.Ytcklefgkbddlhaa.Nest
/- The marks of terms: the texts, and what laws.heldSeries says of them. -/
namespace Go.Proofs.Ytcklefgkbddlhaa.Tab
open Go.RowKit Go.Proofs.Ytcklefgkbddlhaa.P Go.Proofs.YtcklefgkbddlhaaW.PrintWords Go.Proofs.YtcklefgkbddlhaaW.PrintLast Go.Proofs.YtcklefgkbddlhaaW.PrintMore Go.Proofs.Ytcklefgkbddlhaa.Pure
set_option linter.unusedVariables false
set_option linter.unusedSimpArgs false

theorem strOf1 (x : Int) : (strOfNums [x]).size = 1 := by
  unfold strOfNums
  rfl
theorem markText_l0 : ∀ (n : Nat) (k : Nat) (x : Int) (s : ByteArray), x < 10 ^ n → x ≤ 10000000 → n < k → s.size + n ≤ 1000 → ∃ r, laws_markText.l0 k x s = some r
  | n, 0, x, s, h, hx, hk, hs => by omega
  | 0, k + 1, x, s, h, hx, hk, hs => by
    unfold laws_markText.l0
    rw [if_neg (by simp at h; omega), if_pos (by omega)]
    exact ⟨_, rfl⟩
  | n + 1, k + 1, x, s, h, hx, hk, hs => by
    unfold laws_markText.l0
    by_cases h0 : x > 0
    · have e1 := strOf1 ((wrap64 (48 + (Int.tmod x 10))) % 256)
      rw [if_pos h0, Option.bind_some, if_pos (by rw [e1]; omega)]
      have e2 : Int.tdiv x 10 = x / 10 := Int.tdiv_eq_ediv_of_nonneg (by omega)
      rw [wrap_of _ (by rw [e2]; omega) (by rw [e2]; omega), e2]
      refine markText_l0 n k _ _ ?_ (by omega) (by omega) (by rw [ByteArray.size_append, e1]; omega)
      rw [Int.pow_succ] at h
      omega
    · rw [if_neg h0, if_pos (by omega)]
      exact ⟨_, rfl⟩
/-- The text of a mark. -/
def mt (m : Int) : ByteArray := (laws_markText.f 100 m).getD ByteArray.empty
theorem mt_100 (m : Int) (h : m ≤ 9999999) : laws_markText.f 100 m = some (mt m) := by
  have : ∃ r, laws_markText.f 100 m = some r := by
    unfold laws_markText.f
    split
    · exact ⟨_, rfl⟩
    · exact markText_l0 7 100 m _ (by omega) (by omega) (by omega) (by simp [ByteArray.size])
  obtain ⟨r, hr⟩ := this
  unfold mt
  rw [hr]
  rfl
theorem mt_f (m : Int) (h : m ≤ 9999999) (k : Nat) (hk : 100 ≤ k) : laws_markText.f k m = some (mt m) := by
  induction k with
  | zero => omega
  | succ k ih =>
    by_cases hh : k + 1 = 100
    · rw [hh]
      exact mt_100 m h
    · exact laws_markText.mono m k _ (ih (by omega))
/-- The marks of n terms from m on. -/
def tmarks (m : Int) : Nat → List S89
  | 0 => []
  | n + 1 => ⟨mt m, ⟨m + 1, m + 2⟩⟩ :: tmarks (m + 3) n
theorem tmarks_length : ∀ (n : Nat) (m : Int), (tmarks m n).length = n
  | 0, _ => rfl
  | n + 1, m => by simp [tmarks, tmarks_length n]
theorem tmarks_snoc : ∀ (n : Nat) (m : Int), tmarks m (n + 1) = tmarks m n ++ [⟨mt (m + 3 * n), ⟨m + 3 * n + 1, m + 3 * n + 2⟩⟩]
  | 0, m => by simp [tmarks]
  | n + 1, m => by
    rw [tmarks, tmarks_snoc n (m + 3)]
    simp only [tmarks, List.cons_append]
    rw [show m + 3 + 3 * (n : Int) = m + 3 * ((n + 1 : Nat) : Int) by omega]
theorem tmarks_get : ∀ (n : Nat) (m : Int) (i : Nat) (h : i < n), rd_T89 (tmarks m n) (i : Int) = ⟨mt (m + 3 * i), ⟨m + 3 * i + 1, m + 3 * i + 2⟩⟩
  | 0, m, i, h => by omega
  | n + 1, m, 0, h => by simp [tmarks, rd_T89]
  | n + 1, m, i + 1, h => by
    have := tmarks_get n (m + 3) i (by omega)
    simp only [rd_T89, tmarks] at this ⊢
    rw [Int.toNat_natCast] at this ⊢
    rw [List.getD_cons_succ, this, show m + 3 + 3 * (i : Int) = m + 3 * ((i + 1 : Nat) : Int) by omega]
theorem rdS_nat (l : List S89) (i : Nat) (h : i < l.length) : rd_T89 l (i : Int) = l[i] := by simp [rd_T89, List.getD_eq_getElem?_getD, h]
end Go.Proofs.Ytcklefgkbddlhaa.Tab
/- laws.markTermS, laws.markSeries: what calls of them come to. -/
namespace Go.Proofs.Ytcklefgkbddlhaa.Tab
open Go.RowKit Go.Proofs.Ytcklefgkbddlhaa.P Go.Proofs.YtcklefgkbddlhaaW.PrintWords Go.Proofs.YtcklefgkbddlhaaW.PrintLast Go.Proofs.YtcklefgkbddlhaaW.PrintMore
set_option linter.unusedVariables false
set_option linter.unusedSimpArgs false

theorem set_midT (a l : List S89) (i : Nat) (x : S89) (ha : a.length = i) (hi : i < l.length) : (a ++ l.drop i).set i x = (a ++ [x]) ++ l.drop (i + 1) := by
  rw [List.set_append_right _ _ (by omega), List.drop_eq_getElem_cons hi, show i - a.length = 0 by omega, List.set_cons_zero, List.append_assoc]
  rfl
/-- Three cells of a term are written. -/
theorem put_term {w : World} {base g n cap : Nat} {ok : Nat → Prop} {xs : List S89} (h : Kd.R k89 89 w base ok (.slice (some ⟨g, 0, none⟩) n cap) xs) (i : Int) (h0 : 0 ≤ i) (h1 : i < n) (s : ByteArray) (a b : Int) :
    Kd.R k89 89 (((w.setCell ⟨g, i.toNat * 3, none⟩ (.string s)).setCell ⟨g, i.toNat * 3 + 1, none⟩ (.int .i64 a)).setCell ⟨g, i.toNat * 3 + 2, none⟩ (.int .i64 b)) base ok (.slice (some ⟨g, 0, none⟩) n cap) (xs.set i.toNat ⟨s, ⟨a, b⟩⟩) := by
  have hn := (Kd.R_reads' h).1
  obtain ⟨c, hl, hM, hc, hf⟩ := Kd.R_elem h z89 i h0 h1
  have hs := Kd.R_seg h i h0 h1 (seg := [.string s, .int .i64 a, .int .i64 b]) (j := 0) hl hc (show 3 ≤ 3 from Nat.le_refl _) (x' := ⟨s, ⟨a, b⟩⟩) (okp := fun _ => False) (by
    have e : List.take 0 c ++ [Value.string s, Value.int .i64 a, .int .i64 b] ++ List.drop (0 + [Value.string s, Value.int .i64 a, .int .i64 b].length) c = [.string s, .int .i64 a, .int .i64 b] := by
      rw [List.drop_of_length_le (by rw [hl]; exact (show 3 ≤ 3 from Nat.le_refl _))]
      rfl
    rw [e]
    exact k89_mkM _ _ _ ⟨s, ⟨a, b⟩⟩) (fun _ hk => hk.elim)
  exact hs.1

set_option maxHeartbeats 4000000 in
set_option maxRecDepth 100000 in
theorem markTermS_calls (P : Nat → Prop) (v : Value) (l : List S89) (m : Int) (w0 w : World) (hB : Below w0.heap.size w0 w) (ho : Kd.R k89 89 w w0.heap.size P v l) (h0 : 0 ≤ m) (h1 : m ≤ 4000000) (hl : m + 3 * l.length ≤ 9000000) :
    Calls Try.prog 65 #[v, .int .i64 m] w fun e w' => e = .returned (.int .i64 (m + 3 * l.length)) ∧ Kd.R k89 89 w' w0.heap.size P v (tmarks m l.length) ∧ Below w0.heap.size w0 w' ∧ Kept w w' P := by
  obtain ⟨A, c, rfl⟩ := Kd.R_slice ho
  have HS := Aside0.mk ho
  have HB := Aside0.mk hB
  clear ho hB
  go_enter Try.func65, Try.ntmps65
  go_wp2
  go_loopg [1, 5] l.length (fun gg u1 u5 wr => ∃ i : Nat, i ≤ l.length ∧ l.length - i ≤ gg ∧ u1 = .int .i64 (m + 3 * i) ∧ u5 = .int .i64 i ∧ Aside0 (Kd.R k89 89 wr w0.heap.size P (.slice A l.length c) (tmarks m i ++ l.drop i)) ∧ Aside0 (Below w0.heap.size w0 wr) ∧ Aside0 (Kept w wr P))
  case atStart => exact ⟨0, Nat.zero_le _, by omega, by simp, rfl, ⟨by simpa [tmarks] using HS.out⟩, HB, ⟨Kept.refl _ _⟩⟩
  case round =>
    obtain ⟨i, hi, hg, rfl, rfl, HSi, HBi, HKi⟩ := hrel
    by_cases hlt : i < l.length
    · have hltz : (i : Int) < (l.length : Int) := by omega
      have hln : (tmarks m i ++ l.drop i).length = l.length := by simp [tmarks_length]; omega
      obtain ⟨g, cap, e1, hg1, hg2, cells, hcells⟩ := Kd.R_form HSi.out (by omega)
      injection e1 with e1 e2 e3
      subst e1 e3
      clear e2
      have HPg := Aside0.mk (HSi.out.1 g (by simp [Value.ownBlock]))
      have HM := Aside0.mk (mt_f (m + 3 * i) (by omega) 100 (by omega))
      have p1 : (0 ≤ (i : Int)) = True := eq_true (by omega)
      have p2 : ((i : Int) < (l.length : Int)) = True := eq_true hltz
      clear hcells
      go_wp2_with (go_at_call 123; refine (laws_markText.calls 100 _ _ _ HM.out).mono ?_; rintro e w4 ⟨rfl, hb⟩; have HS4 := Aside0.mk (Kd.R_below HSi.out hb); have HB4 := Aside0.mk (below_step HBi.out hb); have HK4 := Aside0.mk (HKi.out.below hb); obtain ⟨cs, hcs, hcM, hcc, hcf⟩ := Kd.R_elem HS4.out z89 (i : Int) (by omega) hltz; have hcs2 := k89_openM hcM; subst hcs2; have y0 := hcc 0 _ rfl; have y1 := hcc 1 _ rfl; have y2 := hcc 2 _ rfl; rw [Int.toNat_natCast] at y0 y1 y2; replace y0 : w4.cell? ⟨g, i * 3, none⟩ = _ := y0; replace y1 : w4.cell? ⟨g, i * 3 + 1, none⟩ = _ := y1; replace y2 : w4.cell? ⟨g, i * 3 + 1 + 1, none⟩ = _ := y2; obtain ⟨g4, c4, e4, _, _, cells4, hcells4⟩ := Kd.R_form HS4.out (by rw [hln]; omega); injection e4 with e5 e6 e7; injection e5 with e5; injection e5 with e5; subst e5; have fz : ∀ j, w4.frozen? ⟨g, j, none⟩ = false := fun j => blk_frozen hcells4 j; have f0 := fz (i * 3); have f1 := fz (i * 3 + 1); have f2 := fz (i * 3 + 1 + 1); clear hb hcs hcM hcc hcf hcells4 e6 e7 fz)
      go_roundg (l.length - (i + 1))
      case measure => omega
      case rel =>
        have hp := put_term HS4.out (i : Int) (by omega) hltz (mt (m + 3 * i)) (m + 3 * i + 1) (m + 3 * i + 1 + 1)
        rw [Int.toNat_natCast, set_midT _ _ _ _ (tmarks_length _ _) hlt] at hp
        have e9 : tmarks m i ++ [⟨mt (m + 3 * (i : Int)), ⟨m + 3 * (i : Int) + 1, m + 3 * (i : Int) + 1 + 1⟩⟩] = tmarks m (i + 1) := by
          rw [tmarks_snoc, show m + 3 * (i : Int) + 2 = m + 3 * (i : Int) + 1 + 1 by omega]
        rw [e9] at hp
        refine ⟨i + 1, by omega, by omega, by congr 1; omega, by congr 1, ⟨hp⟩, ⟨below_set (below_set (below_set HB4.out hg1) hg1) hg1⟩, ⟨((HK4.out.setCell (.inl HPg.out) _).setCell (.inl HPg.out) _).setCell (.inl HPg.out) _⟩⟩
    · obtain rfl : i = l.length := by omega
      go_wp2
      go_ret
      refine ⟨rfl, ?_, HBi.out, HKi.out⟩
      have := HSi.out
      simpa using this
set_option maxHeartbeats 4000000 in
set_option maxRecDepth 100000 in
theorem markSeries_calls (P : Nat → Prop) (d n : Int) (v : Value) (l : List S89) (m : Int) (w0 w : World) (hB : Below w0.heap.size w0 w) (ho : Kd.R k89 89 w w0.heap.size P v l) (h0 : 0 ≤ m) (h1 : m ≤ 4000000) (hl : m + 3 * l.length ≤ 9000000) :
    Calls Try.prog 24 #[.agg #[.int .i64 d, .int .i64 n, v], .int .i64 m] w fun e w' => e = .returned (.int .i64 (m + 3 * l.length)) ∧ Kd.R k89 89 w' w0.heap.size P v (tmarks m l.length) ∧ Below w0.heap.size w0 w' ∧ Kept w w' P := by
  obtain ⟨A, c, rfl⟩ := Kd.R_slice ho
  have hs := below_size hB
  have hu24 := Try.underlying32
  have HS := Aside0.mk (Kd.R_alloc ho (.cells #[.int .i64 d, .int .i64 n, .slice A l.length c] 32))
  have HB := Aside0.mk (below_alloc hB (.cells #[.int .i64 d, .int .i64 n, .slice A l.length c] 32))
  have HK := Aside0.mk ((Kept.refl w P).alloc (.cells #[.int .i64 d, .int .i64 n, .slice A l.length c] 32))
  clear ho hB hs
  go_enter Try.func24, Try.ntmps24
  go_wp2_with (go_at_call 65; refine (markTermS_calls P _ l m w0 _ HB.out HS.out h0 h1 hl).mono ?_; rintro e w4 ⟨rfl, hR, hb, hk⟩; have HR := Aside0.mk hR; have HB4 := Aside0.mk hb; have HK4 := Aside0.mk (HK.out.then_ hk (fun k hk => .inl hk)); clear hR hb hk)
  go_ret
  exact ⟨rfl, HR.out, HB4.out, HK4.out⟩
end Go.Proofs.Ytcklefgkbddlhaa.Tab
/- laws.markInt64SS: what a call of it comes to at rows that are apart. -/
namespace Go.Proofs.Ytcklefgkbddlhaa.Nest
open Go.RowKit Go.Proofs.Ytcklefgkbddlhaa.P Go.Proofs.Ytcklefgkbddlhaa.Pure Go.Proofs.YtcklefgkbddlhaaW.PrintWords Go.Proofs.YtcklefgkbddlhaaW.PrintLast Go.Proofs.YtcklefgkbddlhaaW.PrintMore
set_option linter.unusedVariables false
set_option linter.unusedSimpArgs false

/-- How many numbers rows hold. -/
def total : List (List Int) → Nat
  | [] => 0
  | r :: l => r.length + total l
/-- The marks of rows from m on. -/
def marks2 (m : Int) : List (List Int) → List (List Int)
  | [] => []
  | r :: l => marks m r.length :: marks2 (m + r.length) l
theorem total_append (a b : List (List Int)) : total (a ++ b) = total a + total b := by
  induction a with
  | nil => simp [total]
  | cons r a ih => simp only [List.cons_append, total, ih]; omega
theorem marks2_length (l : List (List Int)) : ∀ m, (marks2 m l).length = l.length := by
  induction l with
  | nil => intro m; rfl
  | cons r l ih => intro m; simp [marks2, ih]
theorem marks2_append (a b : List (List Int)) : ∀ m, marks2 m (a ++ b) = marks2 m a ++ marks2 (m + total a) b := by
  induction a with
  | nil => intro m; simp [marks2, total]
  | cons r a ih => intro m; simp only [List.cons_append, marks2, ih, total]; rw [show m + (r.length : Int) + (total a : Int) = m + ((r.length + total a : Nat) : Int) by omega]
theorem marks2_snoc (m : Int) (a : List (List Int)) (r : List Int) : marks2 m (a ++ [r]) = marks2 m a ++ [marks (m + total a) r.length] := by
  rw [marks2_append]; rfl
theorem take_total_le (l : List (List Int)) (i : Nat) : total (l.take i) ≤ total l := by
  have := total_append (l.take i) (l.drop i)
  rw [List.take_append_drop] at this
  omega
theorem total_take_succ (l : List (List Int)) (i : Nat) (h : i < l.length) : total (l.take (i + 1)) = total (l.take i) + l[i].length := by
  rw [List.take_succ_eq_append_getElem h, total_append]
  simp [total]

theorem set_mid (a l : List (List Int)) (i : Nat) (x : List Int) (ha : a.length = i) (hi : i < l.length) : (a ++ l.drop i).set i x = (a ++ [x]) ++ l.drop (i + 1) := by
  rw [List.set_append_right _ _ (by omega), List.drop_eq_getElem_cons hi, show i - a.length = 0 by omega, List.set_cons_zero, List.append_assoc]
  rfl

set_option maxHeartbeats 4000000 in
set_option maxRecDepth 10000 in
theorem markInt64SS_calls (P : Nat → Prop) (v : Value) (l : List (List Int)) (m : Int) (w0 w : World) (hB : Below w0.heap.size w0 w) (ho : Kd.S (Kd.slice 2 (Kd.int .i64)) 48 w w0.heap.size P v l) (h0 : 0 ≤ m) (h1 : m ≤ 4000000) (hl : l.length ≤ 4000000) (ht : total l ≤ 4000000) :
    Calls Try.prog 50 #[v, .int .i64 m] w fun e w' => e = .returned (.int .i64 (m + total l)) ∧ Kd.S (Kd.slice 2 (Kd.int .i64)) 48 w' w0.heap.size P v (marks2 m l) ∧ Below w0.heap.size w0 w' ∧ Kept w w' P := by
  obtain ⟨A, c, rfl, hc⟩ := Kd.S_reads ho

  have HS := Aside0.mk ho
  have HB := Aside0.mk hB
  have HT := Aside0.mk ht
  clear ho hB hc ht
  go_enter Try.func50, Try.ntmps50
  go_wp2
  go_loopg [1, 5] l.length (fun gg u1 u5 wr => ∃ i : Nat, i ≤ l.length ∧ l.length - i ≤ gg ∧ u1 = .int .i64 (m + total (l.take i)) ∧ u5 = .int .i64 i ∧ Aside0 (Kd.S (Kd.slice 2 (Kd.int .i64)) 48 wr w0.heap.size P (.slice A l.length c) (marks2 m (l.take i) ++ l.drop i)) ∧ Aside0 (Below w0.heap.size w0 wr) ∧ Aside0 (Kept w wr P))
  case atStart => exact ⟨0, Nat.zero_le _, by omega, by simp [total], rfl, ⟨by simpa [marks2] using HS.out⟩, HB, ⟨Kept.refl _ _⟩⟩
  case round =>
    obtain ⟨i, hi, hg, rfl, rfl, HSi, HBi, HKi⟩ := hrel
    by_cases hlt : i < l.length
    · have hltz : (i : Int) < (l.length : Int) := by omega
      have hln : (marks2 m (l.take i) ++ l.drop i).length = l.length := by simp [marks2_length]; omega
      have hpos := Kd.R_form (Kd.S_R HSi.out) (by omega)
      obtain ⟨g, cap, e1, hg1, hg2, cells, hcells⟩ := hpos
      injection e1 with e1 e2 e3
      subst e1 e3
      clear e2
      obtain ⟨oki, cs, hcs, hM, hcell, hoki, hH⟩ := Kd.S_lend HSi.out ([] : List Int) (i : Int) (by omega) (by omega)
      have hget : (marks2 m (l.take i) ++ l.drop i).getD (i : Int).toNat ([] : List Int) = l[i] := by
        rw [Int.toNat_natCast, List.getD_eq_getElem?_getD, List.getElem?_append_right (by simp [marks2_length]; omega)]
        simp [marks2_length, Nat.min_eq_left hi, show i < l.length by omega]
      rw [hget] at hM
      obtain ⟨v', rfl, hR⟩ := hM
      have hcellv := hcell 0 v' rfl
      obtain ⟨A', c', rfl, hcc', hCC⟩ := Kd.R_reads hR
      have hcell0 : wr.cell? ⟨g, i, none⟩ = some (.slice A' l[i].length c') := by
        have : (i : Int).toNat * (Kd.slice 2 (Kd.int .i64)).sz + 0 = i := by show (i : Int).toNat * 1 + 0 = i; omega
        rw [this] at hcellv; exact hcellv
      have hr1 := total_take_succ l i hlt
      have hr2 := take_total_le l (i + 1)
      have hT := HT.out
      have HMk := Aside0.mk (markInt64S_f (l[i].length + 1) l[i] (m + total (l.take i)) (by omega) (by omega) (by omega) (by omega))
      have HH := Aside0.mk hH
      have HR := Aside0.mk hR
      have HO := Aside0.mk hoki
      have e4 : m + (total (l.take i) : Int) + (l[i].length : Int) = m + (total (l.take (i + 1)) : Int) := by omega
      have E4 := Aside0.mk e4
      have HE := Aside0.mk hr1
      have HLN := Aside0.mk hln
      clear hH hR hcell hcellv hoki hget hCC hcells hr1 e4 hT hr2 hcs hln hcc'
      generalize hrow : l[i] = row at *
      have HROW := Aside0.mk hrow
      clear hrow
      go_wp2_with (go_at_call 34; refine (laws_markInt64S.calls (row.length + 1) oki (.slice A' row.length c') row (m + total (l.take i)) _ _ w0 _ HBi.out HR.out HMk.out).mono ?_; rw [E4.out]; rintro e w' ⟨rfl, hR', hB', hK'⟩)
      go_roundg (l.length - (i + 1))
      case measure => omega
      case rel =>
        refine ⟨i + 1, by omega, by omega, rfl, by go_num, ⟨?_⟩, ⟨hB'⟩, ⟨HKi.out.then_ hK' (fun k hk => .inl (HO.out k hk).1)⟩⟩
        have h2 := Kd.H_back (Kd.H_kept HH.out hK' (fun k _ hn => hn)) (okp := fun k => some k = (Value.slice A' row.length c').ownBlock) (x' := marks (m + total (l.take i)) row.length) ⟨_, rfl, Kd.R_tight rfl hR'⟩ (fun k hk => HR.out.1 k hk.symm)
        have e5 : (marks2 m (l.take i) ++ l.drop i).set (i : Int).toNat (marks (m + total (l.take i)) row.length) = marks2 m (l.take (i + 1)) ++ l.drop (i + 1) := by
          rw [Int.toNat_natCast, set_mid _ _ _ _ (by rw [marks2_length, List.length_take]; omega) hlt, List.take_succ_eq_append_getElem hlt, HROW.out, marks2_snoc]
        rw [e5] at h2
        exact h2
    · have hltz : ¬ (i : Int) < (l.length : Int) := by omega
      have hii : i = l.length := by omega
      subst hii
      go_wp2
      go_ret
      refine ⟨?_, ?_, HBi.out, HKi.out⟩
      · simp
      · have := HSi.out
        simpa using this
end Go.Proofs.Ytcklefgkbddlhaa.Nest
/- laws.toInt64SSS and laws.markInt64SSS: what calls of them come to at rows of rows no two of which lead to one block. -/
namespace Go.Proofs.Ytcklefgkbddlhaa.Nest
open Go.RowKit Go.Proofs.Ytcklefgkbddlhaa.P Go.Proofs.Ytcklefgkbddlhaa.Pure Go.Proofs.YtcklefgkbddlhaaW.PrintWords Go.Proofs.YtcklefgkbddlhaaW.PrintLast Go.Proofs.YtcklefgkbddlhaaW.PrintMore
set_option linter.unusedVariables false
set_option linter.unusedSimpArgs false

/-- Elements that are rows of one's own, no two elements of which lead to one block. -/
def sliceS {α : Type} (e : Nat) (d : Kd α) : Kd (List α) where
  sz := 1
  E := e :: d.E
  K := (Kd.slice e d).K
  M := fun w base ok xs cs => ∃ v, cs = [v] ∧ Kd.S d e w base ok v xs
  K_len := (Kd.slice e d).K_len
  K_one := (Kd.slice e d).K_one
  K_below := (Kd.slice e d).K_below
  K_of_M := by
    rintro w base ok x cs ⟨v, rfl, h⟩
    exact (Kd.slice e d).K_of_M (w := w) (base := base) (ok := ok) ⟨v, rfl, Kd.S_R h⟩
  M_mono := by
    rintro w base ok ok' x cs hok ⟨v, rfl, h⟩
    exact ⟨v, rfl, Kd.S_mono h hok⟩
  M_bound := by
    rintro w base ok x cs ⟨v, rfl, h⟩
    exact ⟨v, rfl, Kd.S_bound h⟩
  M_move := by
    rintro w w1 base ok x cs hm ⟨v, rfl, h⟩
    exact ⟨v, rfl, Kd.S_move h hm⟩
  M_lower := by
    rintro w base base' ok x cs hb ⟨v, rfl, h⟩
    exact ⟨v, rfl, Kd.S_lower h hb⟩
/-- Rows as they are only read. -/
theorem deep_C {α : Type} {e : Nat} {d : Kd α} {w : World} {A : Option Addr} {n : Nat} {xs : List (List α)} (h : (sliceS e d).C w A n xs) : (Kd.slice e d).C w A n xs := h

/-- How many numbers rows of rows hold. -/
def total3 : List (List (List Int)) → Nat
  | [] => 0
  | x :: l => total x + total3 l
/-- The marks of rows of rows from m on. -/
def marks3 (m : Int) : List (List (List Int)) → List (List (List Int))
  | [] => []
  | x :: l => marks2 m x :: marks3 (m + total x) l
theorem total3_append (a b : List (List (List Int))) : total3 (a ++ b) = total3 a + total3 b := by
  induction a with
  | nil => simp [total3]
  | cons r a ih => simp only [List.cons_append, total3, ih]; omega
theorem marks3_length (l : List (List (List Int))) : ∀ m, (marks3 m l).length = l.length := by
  induction l with
  | nil => intro m; rfl
  | cons r l ih => intro m; simp [marks3, ih]
theorem marks3_append (a b : List (List (List Int))) : ∀ m, marks3 m (a ++ b) = marks3 m a ++ marks3 (m + total3 a) b := by
  induction a with
  | nil => intro m; simp [marks3, total3]
  | cons r a ih => intro m; simp only [List.cons_append, marks3, ih, total3]; rw [show m + (total r : Int) + (total3 a : Int) = m + ((total r + total3 a : Nat) : Int) by omega]
theorem marks3_snoc (m : Int) (a : List (List (List Int))) (r : List (List Int)) : marks3 m (a ++ [r]) = marks3 m a ++ [marks2 (m + total3 a) r] := by
  rw [marks3_append]; rfl
theorem take_total3_le (l : List (List (List Int))) (i : Nat) : total3 (l.take i) ≤ total3 l := by
  have := total3_append (l.take i) (l.drop i)
  rw [List.take_append_drop] at this
  omega
theorem total3_take_succ (l : List (List (List Int))) (i : Nat) (h : i < l.length) : total3 (l.take (i + 1)) = total3 (l.take i) + total l[i] := by
  rw [List.take_succ_eq_append_getElem h, total3_append]
  simp [total3]
theorem set_mid3 (a l : List (List (List Int))) (i : Nat) (x : List (List Int)) (ha : a.length = i) (hi : i < l.length) : (a ++ l.drop i).set i x = (a ++ [x]) ++ l.drop (i + 1) := by
  rw [List.set_append_right _ _ (by omega), List.drop_eq_getElem_cons hi, show i - a.length = 0 by omega, List.set_cons_zero, List.append_assoc]
  rfl

set_option maxHeartbeats 4000000 in
set_option maxRecDepth 10000 in
theorem markInt64SSS_calls (P : Nat → Prop) (v : Value) (l : List (List (List Int))) (m : Int) (w0 w : World) (hB : Below w0.heap.size w0 w) (ho : Kd.S (sliceS 48 (Kd.slice 2 (Kd.int .i64))) 62 w w0.heap.size P v l) (h0 : 0 ≤ m) (h1 : m + total3 l ≤ 4000000) (hl : l.length ≤ 2000000) (ht : total3 l ≤ 2000000) (hw : ∀ x ∈ l, x.length ≤ 2000000) :
    Calls Try.prog 25 #[v, .int .i64 m] w fun e w' => e = .returned (.int .i64 (m + total3 l)) ∧ Kd.S (sliceS 48 (Kd.slice 2 (Kd.int .i64))) 62 w' w0.heap.size P v (marks3 m l) ∧ Below w0.heap.size w0 w' ∧ Kept w w' P := by
  obtain ⟨A, c, rfl, hc⟩ := Kd.S_reads ho
  have HS := Aside0.mk ho
  have HB := Aside0.mk hB
  have HT := Aside0.mk ht
  have HWL := Aside0.mk hw
  have H1 := Aside0.mk h1
  clear ho hB hc ht hw
  go_enter Try.func25, Try.ntmps25
  go_wp2
  go_loopg [1, 5] l.length (fun gg u1 u5 wr => ∃ i : Nat, i ≤ l.length ∧ l.length - i ≤ gg ∧ u1 = .int .i64 (m + total3 (l.take i)) ∧ u5 = .int .i64 i ∧ Aside0 (Kd.S (sliceS 48 (Kd.slice 2 (Kd.int .i64))) 62 wr w0.heap.size P (.slice A l.length c) (marks3 m (l.take i) ++ l.drop i)) ∧ Aside0 (Below w0.heap.size w0 wr) ∧ Aside0 (Kept w wr P))
  case atStart => exact ⟨0, Nat.zero_le _, by omega, by simp [total3], rfl, ⟨by simpa [marks3] using HS.out⟩, HB, ⟨Kept.refl _ _⟩⟩
  case round =>
    obtain ⟨i, hi, hg, rfl, rfl, HSi, HBi, HKi⟩ := hrel
    by_cases hlt : i < l.length
    · have hltz : (i : Int) < (l.length : Int) := by omega
      have hln : (marks3 m (l.take i) ++ l.drop i).length = l.length := by simp [marks3_length]; omega
      have hpos := Kd.S_form HSi.out (by omega)
      obtain ⟨g, cap, e1, hg1, hg2, cells, hcells⟩ := hpos
      injection e1 with e1 e2 e3
      subst e1 e3
      clear e2
      obtain ⟨oki, cs, hcs, hM, hcell, hoki, hH⟩ := Kd.S_lend HSi.out ([] : List (List Int)) (i : Int) (by omega) (by omega)
      have hget : (marks3 m (l.take i) ++ l.drop i).getD (i : Int).toNat ([] : List (List Int)) = l[i] := by
        rw [Int.toNat_natCast, List.getD_eq_getElem?_getD, List.getElem?_append_right (by simp [marks3_length]; omega)]
        simp [marks3_length, Nat.min_eq_left hi, show i < l.length by omega]
      rw [hget] at hM
      obtain ⟨v', rfl, hR⟩ := hM
      have hcellv := hcell 0 v' rfl
      obtain ⟨A', c', rfl, hcc', hCC⟩ := Kd.S_reads hR
      have hcell0 : wr.cell? ⟨g, i, none⟩ = some (.slice A' l[i].length c') := by
        have : (i : Int).toNat * (sliceS 48 (Kd.slice 2 (Kd.int .i64))).sz + 0 = i := by show (i : Int).toNat * 1 + 0 = i; omega
        rw [this] at hcellv; exact hcellv
      have hr1 := total3_take_succ l i hlt
      have hr2 := take_total3_le l (i + 1)
      have hT := HT.out
      have hM1 := H1.out
      have hxl := HWL.out l[i] (List.getElem_mem hlt)
      have HQ1 : Aside0 (0 ≤ m + (total3 (l.take i) : Int)) := ⟨by omega⟩
      have HQ2 : Aside0 (m + (total3 (l.take i) : Int) ≤ 4000000) := ⟨by omega⟩
      have HQ3 : Aside0 (l[i].length ≤ 4000000) := ⟨by omega⟩
      have HQ4 : Aside0 (total l[i] ≤ 4000000) := ⟨by omega⟩
      have HH := Aside0.mk hH
      have HR := Aside0.mk hR
      have HO := Aside0.mk hoki
      have e4 : m + (total3 (l.take i) : Int) + (total l[i] : Int) = m + (total3 (l.take (i + 1)) : Int) := by omega
      have E4 := Aside0.mk e4
      have HLN := Aside0.mk hln
      clear hH hR hcell hcellv hoki hget hCC hcells hr1 e4 hM1 hT hr2 hcs hln hcc' hxl
      generalize hrow : l[i] = row at *
      have HROW := Aside0.mk hrow
      clear hrow
      go_wp2_with (go_at_call 50; refine (markInt64SS_calls oki (.slice A' row.length c') row (m + total3 (l.take i)) w0 _ HBi.out HR.out HQ1.out HQ2.out HQ3.out HQ4.out).mono ?_; rw [E4.out]; rintro e w' ⟨rfl, hR', hB', hK'⟩)
      go_roundg (l.length - (i + 1))
      case measure => omega
      case rel =>
        refine ⟨i + 1, by omega, by omega, rfl, by go_num, ⟨?_⟩, ⟨hB'⟩, ⟨HKi.out.then_ hK' (fun k hk => .inl (HO.out k hk).1)⟩⟩
        have h2 := Kd.H_back (Kd.H_kept HH.out hK' (fun k _ hn => hn)) (okp := oki) (x' := marks2 (m + total3 (l.take i)) row) ⟨_, rfl, hR'⟩ (fun k hk => hk)
        have e5 : (marks3 m (l.take i) ++ l.drop i).set (i : Int).toNat (marks2 (m + total3 (l.take i)) row) = marks3 m (l.take (i + 1)) ++ l.drop (i + 1) := by
          rw [Int.toNat_natCast, set_mid3 _ _ _ _ (by rw [marks3_length, List.length_take]; omega) hlt, List.take_succ_eq_append_getElem hlt, HROW.out, marks3_snoc]
        rw [e5] at h2
        exact h2
    · have hltz : ¬ (i : Int) < (l.length : Int) := by omega
      have hii : i = l.length := by omega
      subst hii
      go_wp2
      go_ret
      refine ⟨?_, ?_, HBi.out, HKi.out⟩
      · simp
      · have := HSi.out
        simpa using this
end Go.Proofs.Ytcklefgkbddlhaa.Nest
/- laws.toInt64SSS: what a call of it comes to at rows of rows no two of which lead to one block. -/
namespace Go.Proofs.Ytcklefgkbddlhaa.Nest
open Go.RowKit Go.Proofs.Ytcklefgkbddlhaa.P Go.Proofs.Ytcklefgkbddlhaa.Pure Go.Proofs.YtcklefgkbddlhaaW.PrintWords Go.Proofs.YtcklefgkbddlhaaW.PrintLast Go.Proofs.YtcklefgkbddlhaaW.PrintMore
set_option linter.unusedVariables false
set_option linter.unusedSimpArgs false

set_option maxHeartbeats 8000000 in
set_option maxRecDepth 100000 in
theorem toInt64SSS_calls (k : Nat) (A0 : Option Addr) (c0 : Nat) (l0 : List (List (List Int))) (r : List (List (List Int))) (w : World) (hr0 : Kd.C (Kd.slice 48 (Kd.slice 2 (Kd.int .i64))) w A0 l0.length l0) (hc0 : l0.length ≤ c0) (h : laws_toInt64SSS.f k l0 = some r) :
    Calls Try.prog 20 #[.slice A0 l0.length c0] w fun e w' => ∃ v0_ : Value, e = .returned v0_ ∧ Kd.S (sliceS 48 (Kd.slice 2 (Kd.int .i64))) 62 w' w.heap.size (fun _ => True) v0_ r ∧ Below w.heap.size w w' := by
  have HR0 := Aside0.mk hr0
  have HC0 := Aside0.mk hc0
  clear hr0 hc0
  unfold laws_toInt64SSS.f at h
  rw [if_pos (by omega)] at h
  by_cases c3 : ((l0.length : Int) : Int).toNat ≤ 11728124029610
  · rw [if_pos c3] at h
    have H' := Aside0.mk h
    have C3 := Aside0.mk c3
    clear h c3
    go_enter Try.func20, Try.ntmps20
    go_wp2_with ((with_reducible refine gate_dst (N := 7) rfl ?_); refine Kd.S_make (sliceS 48 (Kd.slice 2 (Kd.int .i64))) _ 62 rfl (N := 7) rfl 37 _ _ rfl (l0.length : Int) rfl rfl Try.underlying37 (.slice none 0 0) 24 info62 rfl (by decide) (by omega) [] (ok := fun _ => True) (okp := fun _ => True) ⟨_, rfl, Kd.S_nil _ _ _ _ _⟩ (fun _ hk => hk) trivial (by omega) (Nat.le_trans (Nat.mul_le_mul_right _ C3.out) (by omega)) (Below.refl _ _) (Nat.le_refl _) ?_; intro v130 w4 ho5 hb hg_ hnew_; clear hg_ hnew_; have HO := Aside0.mk ho5; have HB := Aside0.mk hb; clear hb ho5)
    go_loopg [4] k (fun kq v4 w' => ∃ (x3_1 : List (List (List Int))) (x4_1 : Int), v4 = .int .i64 x4_1 ∧ Aside0 (laws_toInt64SSS.l0 kq l0 x3_1 x4_1 = some r) ∧ Aside0 (kq ≤ k) ∧ Aside0 (Kd.S (sliceS 48 (Kd.slice 2 (Kd.int .i64))) 62 w' w.heap.size (fun _ => True) v130 x3_1) ∧ Aside0 (Below w.heap.size w w'))
    case atStart => exact ⟨_, 0, rfl, H', ⟨Nat.le_refl _⟩, HO, HB⟩
    case round =>
      clear H' HO HB
      obtain ⟨x3_1, x4_1, rfl, HA, HK1, HO, HB⟩ := hrel
      cases gk with
      | zero => exact absurd HA.out (by simp [laws_toInt64SSS.l0])
      | succ k1 =>
        have H := HA.out
        clear HA
        simp only [laws_toInt64SSS.l0] at H
        by_cases c6 : x4_1 < (l0.length : Int)
        · rw [if_pos c6] at H
          by_cases c7 : 0 ≤ x4_1
          · rw [if_pos c7] at H
            obtain ⟨t133, A8, H⟩ := Option.bind_eq_some_iff.mp H
            by_cases c9 : x4_1 < (x3_1.length : Int)
            · rw [if_pos c9] at H
              have A8 := Aside0.mk A8
              have H' := Aside0.mk H
              have C9 := Aside0.mk c9
              have C7 := Aside0.mk c7
              have c6b0 : decide (x4_1 < (l0.length : Int)) = true := decide_eq_true c6
              have p132 : (0 ≤ x4_1) = True := eq_true c7
              have q132 : (x4_1 < (l0.length : Int)) = True := eq_true c6
              have q133 : (x4_1 < (x3_1.length : Int)) = True := eq_true c9
              obtain ⟨ad132, A132_0, c132_0, e132, hx132_0, hl132_0, hi132_0⟩ := at_L7 HR0.out x4_1 c7 c6
              cases e132
              replace hx132_0 := (HB.out.cell (World.block_lt_of_cell? w _ hx132_0)).trans hx132_0
              have HR132_0 := Aside0.mk (Kd.C_below hi132_0 HB.out)
              have HC132_0 := Aside0.mk hl132_0
              obtain ⟨go10, co10, eo10, gb10, gl10, cl10, HG10⟩ := Kd.S_form HO.out (by omega)
              subst eo10
              have GB10 := Aside0.mk gb10
              have GL10 := Aside0.mk gl10
              clear hi132_0 hl132_0 c6 c7 c9 gb10 gl10 HG10 H
              go_wp2_with (first | (go_at_call 45; refine (laws_toInt64SS.calls k1 _ _ (rd_L7 l0 x4_1) t133 _ HR132_0.out HC132_0.out A8.out).mono ?_; rintro e w11 ⟨v134, rfl, ho0, hb⟩; obtain ⟨Aq, cq, eq0⟩ := Kd.S_slice ho0; subst eq0; have HX := Aside0.mk (show Kd.S (sliceS 48 (Kd.slice 2 (Kd.int .i64))) 62 w11 w.heap.size (fun k_ => True ∧ ¬ (wr.heap.size ≤ k_)) (.slice (some ⟨go10, 0, none⟩) x3_1.length co10) x3_1 from Kd.S_mono (Kd.S_old HO.out hb) (fun k_ hk_ => ⟨trivial, Nat.not_le.mpr hk_.2⟩)); have HV := Aside0.mk (show Kd.S (Kd.slice 2 (Kd.int .i64)) 48 w11 w.heap.size (fun k_ => wr.heap.size ≤ k_) (.slice Aq t133.length cq) t133 from Kd.S_lower (Kd.S_mono (Kd.S_bound ho0) (fun k_ hk_ => hk_.2.1)) HB.out.size); have HB2 := Aside0.mk (below_step HB.out hb); clear ho0 hb; obtain ⟨oki, ce, hcl, hM, hcc, hfr, hoki, hH⟩ := Kd.S_elem HX.out [] x4_1 C7.out C9.out; obtain ⟨u12, rfl, _⟩ := hM; have hx12_0 := hcc 0 _ rfl; have hf12_0 := hfr 0; simp only [show ((sliceS 48 (Kd.slice 2 (Kd.int .i64)))).sz = 1 from rfl, Nat.mul_one, Nat.add_zero] at hx12_0 hf12_0; have HP := Aside0.mk (Kd.S_seg (okg := fun k_ => wr.heap.size ≤ k_) (okp := fun k_ => wr.heap.size ≤ k_) hH C7.out C9.out (seg := [.slice Aq t133.length cq]) (j := 0) (show 1 ≤ 1 from Nat.le_refl _) (x' := t133) ⟨_, rfl, HV.out⟩ (fun _ hk => .inr hk) (fun k_ hk => ⟨trivial, fun e_ => by have := GL10.out; have hk' : wr.heap.size ≤ k_ := hk; omega⟩)).1; clear hcl hcc hfr hoki hH) | ((with_reducible refine gate_store (t := 62) (p := 21) rfl ?_); refine store_event (t := 62) (p := 21) (v := ?vo) (w1 := (w11.setCell ⟨go10, (x4_1 : Int).toNat, none⟩ (.slice Aq t133.length cq))) ?hg ?ho ?hn ?hr ?_; (case ho => rfl); (case hg => rfl); (case hn => rfl); (case hr => first | (go_simp; done) | (go_simp; rfl)); intro w13 hw; have HO2 := Aside0.mk (show Kd.S (sliceS 48 (Kd.slice 2 (Kd.int .i64))) 62 w13 w.heap.size (fun _ => True) (.slice (some ⟨go10, 0, none⟩) x3_1.length co10) (x3_1.set (x4_1 : Int).toNat t133) from (by rw [hw]; have := HP.out; simp only [show ((sliceS 48 (Kd.slice 2 (Kd.int .i64)))).sz = 1 from rfl, Nat.mul_one, Nat.add_zero] at this; exact this)); have HB3 := Aside0.mk (show Below w.heap.size w w13 from (by rw [hw]; exact below_set HB2.out GB10.out)); clear hw HP))
              go_roundg k1
              case measure => have := HK1.out; omega
              case rel => exact ⟨_, wrap64 (x4_1 + 1), rfl, H', ⟨by have := HK1.out; omega⟩, HO2, HB3⟩
            · rw [if_neg c9] at H
              exact absurd H (by simp)
          · rw [if_neg c7] at H
            exact absurd H (by simp)
        · rw [if_neg c6] at H
          have c6b0 : decide (x4_1 < (l0.length : Int)) = false := decide_eq_false c6
          clear c6
          obtain rfl := Option.some.inj H
          go_wp2
          go_ret
          exact ⟨_, rfl, HO.out, HB.out⟩
  · rw [if_neg c3] at h
    exact absurd h (by simp)
end Go.Proofs.Ytcklefgkbddlhaa.Nest
