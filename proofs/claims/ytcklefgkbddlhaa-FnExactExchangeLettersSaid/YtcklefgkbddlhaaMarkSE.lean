/- laws.markTermS, laws.markSeries: what calls of them come to. -/
import Derived.Test.YtcklefgkbddlhaaMarkTE
namespace Go.Proofs.Ytcklefgkbddlhaa.Tab
open Go.RowKit Go.Proofs.Ytcklefgkbddlhaa.P Go.Proofs.YtcklefgkbddlhaaW.PrintWords Go.Proofs.YtcklefgkbddlhaaW.PrintLast Go.Proofs.YtcklefgkbddlhaaW.PrintMore
set_option linter.unusedVariables false
set_option linter.unusedSimpArgs false

theorem set_midT (a l : List S89) (i : Nat) (x : S89) (ha : a.length = i) (hi : i < l.length) : (a ++ l.drop i).set i x = (a ++ [x]) ++ l.drop (i + 1) := by
  rw [List.set_append_right _ _ (by omega), List.drop_eq_getElem_cons hi, show i - a.length = 0 by omega, List.set_cons_zero, List.append_assoc]
  rfl
/-- Three cells of a term are written. -/
theorem put_term {w : World} {base g n cap : Nat} {ok : Nat → Prop} {xs : List S89} (h : Kd.R k89 89 w base ok (.slice (some ⟨g, 0, none⟩) n cap) xs) (i : Int) (h0 : 0 ≤ i) (h1 : i < n) (s : ByteArray) (a b : Int) :
    Kd.R k89 89 (((w.setCell ⟨g, i.toNat * 3, none⟩ (.string s)).setCell ⟨g, i.toNat * 3 + 1, none⟩ (.int .i64 a)).setCell ⟨g, i.toNat * 3 + 2, none⟩ (.int .i64 b)) base ok (.slice (some ⟨g, 0, none⟩) n cap) (xs.set i.toNat ⟨s, ⟨a, b⟩⟩) := by
  have hn := (Kd.R_reads' h).1
  obtain ⟨c, hl, hM, hc, hf⟩ := Kd.R_elem h z89 i h0 h1
  have hs := Kd.R_seg h i h0 h1 (seg := [.string s, .int .i64 a, .int .i64 b]) (j := 0) hl hc (show 3 ≤ 3 from Nat.le_refl _) (x' := ⟨s, ⟨a, b⟩⟩) (okp := fun _ => False) (by
    have e : List.take 0 c ++ [Value.string s, Value.int .i64 a, .int .i64 b] ++ List.drop (0 + [Value.string s, Value.int .i64 a, .int .i64 b].length) c = [.string s, .int .i64 a, .int .i64 b] := by
      rw [List.drop_of_length_le (by rw [hl]; exact (show 3 ≤ 3 from Nat.le_refl _))]
      rfl
    rw [e]
    exact k89_mkM _ _ _ ⟨s, ⟨a, b⟩⟩) (fun _ hk => hk.elim)
  exact hs.1

set_option maxHeartbeats 4000000 in
set_option maxRecDepth 100000 in
theorem markTermS_calls (P : Nat → Prop) (v : Value) (l : List S89) (m : Int) (w0 w : World) (hB : Below w0.heap.size w0 w) (ho : Kd.R k89 89 w w0.heap.size P v l) (h0 : 0 ≤ m) (h1 : m ≤ 4000000) (hl : m + 3 * l.length ≤ 9000000) :
    Calls Try.prog 65 #[v, .int .i64 m] w fun e w' => e = .returned (.int .i64 (m + 3 * l.length)) ∧ Kd.R k89 89 w' w0.heap.size P v (tmarks m l.length) ∧ Below w0.heap.size w0 w' ∧ Kept w w' P := by
  obtain ⟨A, c, rfl⟩ := Kd.R_slice ho
  have HS := Aside0.mk ho
  have HB := Aside0.mk hB
  clear ho hB
  go_enter Try.func65, Try.ntmps65
  go_wp2
  go_loopg [1, 5] l.length (fun gg u1 u5 wr => ∃ i : Nat, i ≤ l.length ∧ l.length - i ≤ gg ∧ u1 = .int .i64 (m + 3 * i) ∧ u5 = .int .i64 i ∧ Aside0 (Kd.R k89 89 wr w0.heap.size P (.slice A l.length c) (tmarks m i ++ l.drop i)) ∧ Aside0 (Below w0.heap.size w0 wr) ∧ Aside0 (Kept w wr P))
  case atStart => exact ⟨0, Nat.zero_le _, by omega, by simp, rfl, ⟨by simpa [tmarks] using HS.out⟩, HB, ⟨Kept.refl _ _⟩⟩
  case round =>
    obtain ⟨i, hi, hg, rfl, rfl, HSi, HBi, HKi⟩ := hrel
    by_cases hlt : i < l.length
    · have hltz : (i : Int) < (l.length : Int) := by omega
      have hln : (tmarks m i ++ l.drop i).length = l.length := by simp [tmarks_length]; omega
      obtain ⟨g, cap, e1, hg1, hg2, cells, hcells⟩ := Kd.R_form HSi.out (by omega)
      injection e1 with e1 e2 e3
      subst e1 e3
      clear e2
      have HPg := Aside0.mk (HSi.out.1 g (by simp [Value.ownBlock]))
      have HM := Aside0.mk (mt_f (m + 3 * i) (by omega) 100 (by omega))
      have p1 : (0 ≤ (i : Int)) = True := eq_true (by omega)
      have p2 : ((i : Int) < (l.length : Int)) = True := eq_true hltz
      clear hcells
      go_wp2_with (go_at_call 123; refine (laws_markText.calls 100 _ _ _ HM.out).mono ?_; rintro e w4 ⟨rfl, hb⟩; have HS4 := Aside0.mk (Kd.R_below HSi.out hb); have HB4 := Aside0.mk (below_step HBi.out hb); have HK4 := Aside0.mk (HKi.out.below hb); obtain ⟨cs, hcs, hcM, hcc, hcf⟩ := Kd.R_elem HS4.out z89 (i : Int) (by omega) hltz; have hcs2 := k89_openM hcM; subst hcs2; have y0 := hcc 0 _ rfl; have y1 := hcc 1 _ rfl; have y2 := hcc 2 _ rfl; rw [Int.toNat_natCast] at y0 y1 y2; replace y0 : w4.cell? ⟨g, i * 3, none⟩ = _ := y0; replace y1 : w4.cell? ⟨g, i * 3 + 1, none⟩ = _ := y1; replace y2 : w4.cell? ⟨g, i * 3 + 1 + 1, none⟩ = _ := y2; obtain ⟨g4, c4, e4, _, _, cells4, hcells4⟩ := Kd.R_form HS4.out (by rw [hln]; omega); injection e4 with e5 e6 e7; injection e5 with e5; injection e5 with e5; subst e5; have fz : ∀ j, w4.frozen? ⟨g, j, none⟩ = false := fun j => blk_frozen hcells4 j; have f0 := fz (i * 3); have f1 := fz (i * 3 + 1); have f2 := fz (i * 3 + 1 + 1); clear hb hcs hcM hcc hcf hcells4 e6 e7 fz)
      go_roundg (l.length - (i + 1))
      case measure => omega
      case rel =>
        have hp := put_term HS4.out (i : Int) (by omega) hltz (mt (m + 3 * i)) (m + 3 * i + 1) (m + 3 * i + 1 + 1)
        rw [Int.toNat_natCast, set_midT _ _ _ _ (tmarks_length _ _) hlt] at hp
        have e9 : tmarks m i ++ [⟨mt (m + 3 * (i : Int)), ⟨m + 3 * (i : Int) + 1, m + 3 * (i : Int) + 1 + 1⟩⟩] = tmarks m (i + 1) := by
          rw [tmarks_snoc, show m + 3 * (i : Int) + 2 = m + 3 * (i : Int) + 1 + 1 by omega]
        rw [e9] at hp
        refine ⟨i + 1, by omega, by omega, by congr 1; omega, by congr 1, ⟨hp⟩, ⟨below_set (below_set (below_set HB4.out hg1) hg1) hg1⟩, ⟨((HK4.out.setCell (.inl HPg.out) _).setCell (.inl HPg.out) _).setCell (.inl HPg.out) _⟩⟩
    · obtain rfl : i = l.length := by omega
      go_wp2
      go_ret
      refine ⟨rfl, ?_, HBi.out, HKi.out⟩
      have := HSi.out
      simpa using this
set_option maxHeartbeats 4000000 in
set_option maxRecDepth 100000 in
theorem markSeries_calls (P : Nat → Prop) (d n : Int) (v : Value) (l : List S89) (m : Int) (w0 w : World) (hB : Below w0.heap.size w0 w) (ho : Kd.R k89 89 w w0.heap.size P v l) (h0 : 0 ≤ m) (h1 : m ≤ 4000000) (hl : m + 3 * l.length ≤ 9000000) :
    Calls Try.prog 24 #[.agg #[.int .i64 d, .int .i64 n, v], .int .i64 m] w fun e w' => e = .returned (.int .i64 (m + 3 * l.length)) ∧ Kd.R k89 89 w' w0.heap.size P v (tmarks m l.length) ∧ Below w0.heap.size w0 w' ∧ Kept w w' P := by
  obtain ⟨A, c, rfl⟩ := Kd.R_slice ho
  have hs := below_size hB
  have hu24 := Try.underlying32
  have HS := Aside0.mk (Kd.R_alloc ho (.cells #[.int .i64 d, .int .i64 n, .slice A l.length c] 32))
  have HB := Aside0.mk (below_alloc hB (.cells #[.int .i64 d, .int .i64 n, .slice A l.length c] 32))
  have HK := Aside0.mk ((Kept.refl w P).alloc (.cells #[.int .i64 d, .int .i64 n, .slice A l.length c] 32))
  clear ho hB hs
  go_enter Try.func24, Try.ntmps24
  go_wp2_with (go_at_call 65; refine (markTermS_calls P _ l m w0 _ HB.out HS.out h0 h1 hl).mono ?_; rintro e w4 ⟨rfl, hR, hb, hk⟩; have HR := Aside0.mk hR; have HB4 := Aside0.mk hb; have HK4 := Aside0.mk (HK.out.then_ hk (fun k hk => .inl hk)); clear hR hb hk)
  go_ret
  exact ⟨rfl, HR.out, HB4.out, HK4.out⟩
end Go.Proofs.Ytcklefgkbddlhaa.Tab
