/- laws.toInt64SSS and laws.markInt64SSS: what calls of them come to at rows of rows no two of which lead to one block. -/
import Derived.Test.YtbpipmkgclkhgaaPx2
import Derived.Test.YtbpipmkgclkhgaaNest
namespace Go.Proofs.Ytbpipmkgclkhgaa.Nest
open Go.RowKit Go.Proofs.Ytbpipmkgclkhgaa.P Go.Proofs.Ytbpipmkgclkhgaa.Pure Go.Proofs.YtbpipmkgclkhgaaW.PrintWords Go.Proofs.YtbpipmkgclkhgaaW.PrintLast Go.Proofs.YtbpipmkgclkhgaaW.PrintMore
set_option linter.unusedVariables false
set_option linter.unusedSimpArgs false

/-- Elements that are rows of one's own, no two elements of which lead to one block. -/
def sliceS {α : Type} (e : Nat) (d : Kd α) : Kd (List α) where
  sz := 1
  E := e :: d.E
  K := (Kd.slice e d).K
  M := fun w base ok xs cs => ∃ v, cs = [v] ∧ Kd.S d e w base ok v xs
  K_len := (Kd.slice e d).K_len
  K_one := (Kd.slice e d).K_one
  K_below := (Kd.slice e d).K_below
  K_of_M := by
    rintro w base ok x cs ⟨v, rfl, h⟩
    exact (Kd.slice e d).K_of_M (w := w) (base := base) (ok := ok) ⟨v, rfl, Kd.S_R h⟩
  M_mono := by
    rintro w base ok ok' x cs hok ⟨v, rfl, h⟩
    exact ⟨v, rfl, Kd.S_mono h hok⟩
  M_bound := by
    rintro w base ok x cs ⟨v, rfl, h⟩
    exact ⟨v, rfl, Kd.S_bound h⟩
  M_move := by
    rintro w w1 base ok x cs hm ⟨v, rfl, h⟩
    exact ⟨v, rfl, Kd.S_move h hm⟩
  M_lower := by
    rintro w base base' ok x cs hb ⟨v, rfl, h⟩
    exact ⟨v, rfl, Kd.S_lower h hb⟩
/-- Rows as they are only read. -/
theorem deep_C {α : Type} {e : Nat} {d : Kd α} {w : World} {A : Option Addr} {n : Nat} {xs : List (List α)} (h : (sliceS e d).C w A n xs) : (Kd.slice e d).C w A n xs := h

set_option maxHeartbeats 8000000 in
set_option maxRecDepth 100000 in
theorem toInt64SSS_calls (k : Nat) (A0 : Option Addr) (c0 : Nat) (l0 : List (List (List Int))) (r : List (List (List Int))) (w : World) (hr0 : Kd.C (Kd.slice 44 (Kd.slice 2 (Kd.int .i64))) w A0 l0.length l0) (hc0 : l0.length ≤ c0) (h : laws_toInt64SSS.f k l0 = some r) :
    Calls Try.prog 22 #[.slice A0 l0.length c0] w fun e w' => ∃ v0_ : Value, e = .returned v0_ ∧ Kd.S (sliceS 44 (Kd.slice 2 (Kd.int .i64))) 34 w' w.heap.size (fun _ => True) v0_ r ∧ Below w.heap.size w w' := by
  have HR0 := Aside0.mk hr0
  have HC0 := Aside0.mk hc0
  clear hr0 hc0
  unfold laws_toInt64SSS.f at h
  rw [if_pos (by omega)] at h
  by_cases c3 : ((l0.length : Int) : Int).toNat ≤ 11728124029610
  · rw [if_pos c3] at h
    have H' := Aside0.mk h
    have C3 := Aside0.mk c3
    clear h c3
    go_enter Try.func22, Try.ntmps22
    go_wp2_with ((with_reducible refine gate_dst (N := 7) rfl ?_); refine Kd.S_make (sliceS 44 (Kd.slice 2 (Kd.int .i64))) _ 34 rfl (N := 7) rfl 22 _ _ rfl (l0.length : Int) rfl rfl Try.underlying22 (.slice none 0 0) 24 info34 rfl (by decide) (by omega) [] (ok := fun _ => True) (okp := fun _ => True) ⟨_, rfl, Kd.S_nil _ _ _ _ _⟩ (fun _ hk => hk) trivial (by omega) (Nat.le_trans (Nat.mul_le_mul_right _ C3.out) (by omega)) (Below.refl _ _) (Nat.le_refl _) ?_; intro v130 w4 ho5 hb hg_ hnew_; clear hg_ hnew_; have HO := Aside0.mk ho5; have HB := Aside0.mk hb; clear hb ho5)
    go_loopg [4] k (fun kq v4 w' => ∃ (x3_1 : List (List (List Int))) (x4_1 : Int), v4 = .int .i64 x4_1 ∧ Aside0 (laws_toInt64SSS.l0 kq l0 x3_1 x4_1 = some r) ∧ Aside0 (kq ≤ k) ∧ Aside0 (Kd.S (sliceS 44 (Kd.slice 2 (Kd.int .i64))) 34 w' w.heap.size (fun _ => True) v130 x3_1) ∧ Aside0 (Below w.heap.size w w'))
    case atStart => exact ⟨_, 0, rfl, H', ⟨Nat.le_refl _⟩, HO, HB⟩
    case round =>
      clear H' HO HB
      obtain ⟨x3_1, x4_1, rfl, HA, HK1, HO, HB⟩ := hrel
      cases gk with
      | zero => exact absurd HA.out (by simp [laws_toInt64SSS.l0])
      | succ k1 =>
        have H := HA.out
        clear HA
        simp only [laws_toInt64SSS.l0] at H
        by_cases c6 : x4_1 < (l0.length : Int)
        · rw [if_pos c6] at H
          by_cases c7 : 0 ≤ x4_1
          · rw [if_pos c7] at H
            obtain ⟨t133, A8, H⟩ := Option.bind_eq_some_iff.mp H
            by_cases c9 : x4_1 < (x3_1.length : Int)
            · rw [if_pos c9] at H
              have A8 := Aside0.mk A8
              have H' := Aside0.mk H
              have C9 := Aside0.mk c9
              have C7 := Aside0.mk c7
              have c6b0 : decide (x4_1 < (l0.length : Int)) = true := decide_eq_true c6
              have p132 : (0 ≤ x4_1) = True := eq_true c7
              have q132 : (x4_1 < (l0.length : Int)) = True := eq_true c6
              have q133 : (x4_1 < (x3_1.length : Int)) = True := eq_true c9
              obtain ⟨ad132, A132_0, c132_0, e132, hx132_0, hl132_0, hi132_0⟩ := at_L2 HR0.out x4_1 c7 c6
              cases e132
              replace hx132_0 := (HB.out.cell (World.block_lt_of_cell? w _ hx132_0)).trans hx132_0
              have HR132_0 := Aside0.mk (Kd.C_below hi132_0 HB.out)
              have HC132_0 := Aside0.mk hl132_0
              obtain ⟨go10, co10, eo10, gb10, gl10, cl10, HG10⟩ := Kd.S_form HO.out (by omega)
              subst eo10
              have GB10 := Aside0.mk gb10
              have GL10 := Aside0.mk gl10
              clear hi132_0 hl132_0 c6 c7 c9 gb10 gl10 HG10 H
              go_wp2_with (first | (go_at_call 43; refine (laws_toInt64SS.calls k1 _ _ (rd_L2 l0 x4_1) t133 _ HR132_0.out HC132_0.out A8.out).mono ?_; rintro e w11 ⟨v134, rfl, ho0, hb⟩; obtain ⟨Aq, cq, eq0⟩ := Kd.S_slice ho0; subst eq0; have HX := Aside0.mk (show Kd.S (sliceS 44 (Kd.slice 2 (Kd.int .i64))) 34 w11 w.heap.size (fun k_ => True ∧ ¬ (wr.heap.size ≤ k_)) (.slice (some ⟨go10, 0, none⟩) x3_1.length co10) x3_1 from Kd.S_mono (Kd.S_old HO.out hb) (fun k_ hk_ => ⟨trivial, Nat.not_le.mpr hk_.2⟩)); have HV := Aside0.mk (show Kd.S (Kd.slice 2 (Kd.int .i64)) 44 w11 w.heap.size (fun k_ => wr.heap.size ≤ k_) (.slice Aq t133.length cq) t133 from Kd.S_lower (Kd.S_mono (Kd.S_bound ho0) (fun k_ hk_ => hk_.2.1)) HB.out.size); have HB2 := Aside0.mk (below_step HB.out hb); clear ho0 hb; obtain ⟨oki, ce, hcl, hM, hcc, hfr, hoki, hH⟩ := Kd.S_elem HX.out [] x4_1 C7.out C9.out; obtain ⟨u12, rfl, _⟩ := hM; have hx12_0 := hcc 0 _ rfl; have hf12_0 := hfr 0; simp only [show ((sliceS 44 (Kd.slice 2 (Kd.int .i64)))).sz = 1 from rfl, Nat.mul_one, Nat.add_zero] at hx12_0 hf12_0; have HP := Aside0.mk (Kd.S_seg (okg := fun k_ => wr.heap.size ≤ k_) (okp := fun k_ => wr.heap.size ≤ k_) hH C7.out C9.out (seg := [.slice Aq t133.length cq]) (j := 0) (show 1 ≤ 1 from Nat.le_refl _) (x' := t133) ⟨_, rfl, HV.out⟩ (fun _ hk => .inr hk) (fun k_ hk => ⟨trivial, fun e_ => by have := GL10.out; have hk' : wr.heap.size ≤ k_ := hk; omega⟩)).1; clear hcl hcc hfr hoki hH) | ((with_reducible refine gate_store (t := 34) (p := 21) rfl ?_); refine store_event (t := 34) (p := 21) (v := ?vo) (w1 := (w11.setCell ⟨go10, (x4_1 : Int).toNat, none⟩ (.slice Aq t133.length cq))) ?hg ?ho ?hn ?hr ?_; (case ho => rfl); (case hg => rfl); (case hn => rfl); (case hr => first | (go_simp; done) | (go_simp; rfl)); intro w13 hw; have HO2 := Aside0.mk (show Kd.S (sliceS 44 (Kd.slice 2 (Kd.int .i64))) 34 w13 w.heap.size (fun _ => True) (.slice (some ⟨go10, 0, none⟩) x3_1.length co10) (x3_1.set (x4_1 : Int).toNat t133) from (by rw [hw]; have := HP.out; simp only [show ((sliceS 44 (Kd.slice 2 (Kd.int .i64)))).sz = 1 from rfl, Nat.mul_one, Nat.add_zero] at this; exact this)); have HB3 := Aside0.mk (show Below w.heap.size w w13 from (by rw [hw]; exact below_set HB2.out GB10.out)); clear hw HP))
              go_roundg k1
              case measure => have := HK1.out; omega
              case rel => exact ⟨_, wrap64 (x4_1 + 1), rfl, H', ⟨by have := HK1.out; omega⟩, HO2, HB3⟩
            · rw [if_neg c9] at H
              exact absurd H (by simp)
          · rw [if_neg c7] at H
            exact absurd H (by simp)
        · rw [if_neg c6] at H
          have c6b0 : decide (x4_1 < (l0.length : Int)) = false := decide_eq_false c6
          clear c6
          obtain rfl := Option.some.inj H
          go_wp2
          go_ret
          exact ⟨_, rfl, HO.out, HB.out⟩
  · rw [if_neg c3] at h
    exact absurd h (by simp)
/-- How many numbers rows of rows hold. -/
def total3 : List (List (List Int)) → Nat
  | [] => 0
  | x :: l => total x + total3 l
/-- The marks of rows of rows from m on. -/
def marks3 (m : Int) : List (List (List Int)) → List (List (List Int))
  | [] => []
  | x :: l => marks2 m x :: marks3 (m + total x) l
theorem total3_append (a b : List (List (List Int))) : total3 (a ++ b) = total3 a + total3 b := by
  induction a with
  | nil => simp [total3]
  | cons r a ih => simp only [List.cons_append, total3, ih]; omega
theorem marks3_length (l : List (List (List Int))) : ∀ m, (marks3 m l).length = l.length := by
  induction l with
  | nil => intro m; rfl
  | cons r l ih => intro m; simp [marks3, ih]
theorem marks3_append (a b : List (List (List Int))) : ∀ m, marks3 m (a ++ b) = marks3 m a ++ marks3 (m + total3 a) b := by
  induction a with
  | nil => intro m; simp [marks3, total3]
  | cons r a ih => intro m; simp only [List.cons_append, marks3, ih, total3]; rw [show m + (total r : Int) + (total3 a : Int) = m + ((total r + total3 a : Nat) : Int) by omega]
theorem marks3_snoc (m : Int) (a : List (List (List Int))) (r : List (List Int)) : marks3 m (a ++ [r]) = marks3 m a ++ [marks2 (m + total3 a) r] := by
  rw [marks3_append]; rfl
theorem take_total3_le (l : List (List (List Int))) (i : Nat) : total3 (l.take i) ≤ total3 l := by
  have := total3_append (l.take i) (l.drop i)
  rw [List.take_append_drop] at this
  omega
theorem total3_take_succ (l : List (List (List Int))) (i : Nat) (h : i < l.length) : total3 (l.take (i + 1)) = total3 (l.take i) + total l[i] := by
  rw [List.take_succ_eq_append_getElem h, total3_append]
  simp [total3]
theorem set_mid3 (a l : List (List (List Int))) (i : Nat) (x : List (List Int)) (ha : a.length = i) (hi : i < l.length) : (a ++ l.drop i).set i x = (a ++ [x]) ++ l.drop (i + 1) := by
  rw [List.set_append_right _ _ (by omega), List.drop_eq_getElem_cons hi, show i - a.length = 0 by omega, List.set_cons_zero, List.append_assoc]
  rfl

set_option maxHeartbeats 4000000 in
set_option maxRecDepth 10000 in
theorem markInt64SSS_calls (P : Nat → Prop) (v : Value) (l : List (List (List Int))) (m : Int) (w0 w : World) (hB : Below w0.heap.size w0 w) (ho : Kd.S (sliceS 44 (Kd.slice 2 (Kd.int .i64))) 34 w w0.heap.size P v l) (h0 : 0 ≤ m) (h1 : m ≤ 1000) (hl : l.length ≤ 2000000) (ht : total3 l ≤ 2000000) (hw : ∀ x ∈ l, x.length ≤ 2000000) :
    Calls Try.prog 18 #[v, .int .i64 m] w fun e w' => e = .returned (.int .i64 (m + total3 l)) ∧ Kd.S (sliceS 44 (Kd.slice 2 (Kd.int .i64))) 34 w' w0.heap.size P v (marks3 m l) ∧ Below w0.heap.size w0 w' ∧ Kept w w' P := by
  obtain ⟨A, c, rfl, hc⟩ := Kd.S_reads ho
  have HS := Aside0.mk ho
  have HB := Aside0.mk hB
  have HT := Aside0.mk ht
  have HWL := Aside0.mk hw
  clear ho hB hc ht hw
  go_enter Try.func18, Try.ntmps18
  go_wp2
  go_loopg [1, 5] l.length (fun gg u1 u5 wr => ∃ i : Nat, i ≤ l.length ∧ l.length - i ≤ gg ∧ u1 = .int .i64 (m + total3 (l.take i)) ∧ u5 = .int .i64 i ∧ Aside0 (Kd.S (sliceS 44 (Kd.slice 2 (Kd.int .i64))) 34 wr w0.heap.size P (.slice A l.length c) (marks3 m (l.take i) ++ l.drop i)) ∧ Aside0 (Below w0.heap.size w0 wr) ∧ Aside0 (Kept w wr P))
  case atStart => exact ⟨0, Nat.zero_le _, by omega, by simp [total3], rfl, ⟨by simpa [marks3] using HS.out⟩, HB, ⟨Kept.refl _ _⟩⟩
  case round =>
    obtain ⟨i, hi, hg, rfl, rfl, HSi, HBi, HKi⟩ := hrel
    by_cases hlt : i < l.length
    · have hltz : (i : Int) < (l.length : Int) := by omega
      have hln : (marks3 m (l.take i) ++ l.drop i).length = l.length := by simp [marks3_length]; omega
      have hpos := Kd.S_form HSi.out (by omega)
      obtain ⟨g, cap, e1, hg1, hg2, cells, hcells⟩ := hpos
      injection e1 with e1 e2 e3
      subst e1 e3
      clear e2
      obtain ⟨oki, cs, hcs, hM, hcell, hoki, hH⟩ := Kd.S_lend HSi.out ([] : List (List Int)) (i : Int) (by omega) (by omega)
      have hget : (marks3 m (l.take i) ++ l.drop i).getD (i : Int).toNat ([] : List (List Int)) = l[i] := by
        rw [Int.toNat_natCast, List.getD_eq_getElem?_getD, List.getElem?_append_right (by simp [marks3_length]; omega)]
        simp [marks3_length, Nat.min_eq_left hi, show i < l.length by omega]
      rw [hget] at hM
      obtain ⟨v', rfl, hR⟩ := hM
      have hcellv := hcell 0 v' rfl
      obtain ⟨A', c', rfl, hcc', hCC⟩ := Kd.S_reads hR
      have hcell0 : wr.cell? ⟨g, i, none⟩ = some (.slice A' l[i].length c') := by
        have : (i : Int).toNat * (sliceS 44 (Kd.slice 2 (Kd.int .i64))).sz + 0 = i := by show (i : Int).toNat * 1 + 0 = i; omega
        rw [this] at hcellv; exact hcellv
      have hr1 := total3_take_succ l i hlt
      have hr2 := take_total3_le l (i + 1)
      have hT := HT.out
      have hxl := HWL.out l[i] (List.getElem_mem hlt)
      have HQ1 : Aside0 (0 ≤ m + (total3 (l.take i) : Int)) := ⟨by omega⟩
      have HQ2 : Aside0 (m + (total3 (l.take i) : Int) ≤ 4000000) := ⟨by omega⟩
      have HQ3 : Aside0 (l[i].length ≤ 4000000) := ⟨by omega⟩
      have HQ4 : Aside0 (total l[i] ≤ 4000000) := ⟨by omega⟩
      have HH := Aside0.mk hH
      have HR := Aside0.mk hR
      have HO := Aside0.mk hoki
      have e4 : m + (total3 (l.take i) : Int) + (total l[i] : Int) = m + (total3 (l.take (i + 1)) : Int) := by omega
      have E4 := Aside0.mk e4
      have HLN := Aside0.mk hln
      clear hH hR hcell hcellv hoki hget hCC hcells hr1 e4 hT hr2 hcs hln hcc' hxl
      generalize hrow : l[i] = row at *
      have HROW := Aside0.mk hrow
      clear hrow
      go_wp2_with (go_at_call 31; refine (markInt64SS_calls oki (.slice A' row.length c') row (m + total3 (l.take i)) w0 _ HBi.out HR.out HQ1.out HQ2.out HQ3.out HQ4.out).mono ?_; rw [E4.out]; rintro e w' ⟨rfl, hR', hB', hK'⟩)
      go_roundg (l.length - (i + 1))
      case measure => omega
      case rel =>
        refine ⟨i + 1, by omega, by omega, rfl, by go_num, ⟨?_⟩, ⟨hB'⟩, ⟨HKi.out.then_ hK' (fun k hk => .inl (HO.out k hk).1)⟩⟩
        have h2 := Kd.H_back (Kd.H_kept HH.out hK' (fun k _ hn => hn)) (okp := oki) (x' := marks2 (m + total3 (l.take i)) row) ⟨_, rfl, hR'⟩ (fun k hk => hk)
        have e5 : (marks3 m (l.take i) ++ l.drop i).set (i : Int).toNat (marks2 (m + total3 (l.take i)) row) = marks3 m (l.take (i + 1)) ++ l.drop (i + 1) := by
          rw [Int.toNat_natCast, set_mid3 _ _ _ _ (by rw [marks3_length, List.length_take]; omega) hlt, List.take_succ_eq_append_getElem hlt, HROW.out, marks3_snoc]
        rw [e5] at h2
        exact h2
    · have hltz : ¬ (i : Int) < (l.length : Int) := by omega
      have hii : i = l.length := by omega
      subst hii
      go_wp2
      go_ret
      refine ⟨?_, ?_, HBi.out, HKi.out⟩
      · simp
      · have := HSi.out
        simpa using this
end Go.Proofs.Ytbpipmkgclkhgaa.Nest
