/- laws.toInt64SSS and laws.markInt64SSS: what calls of them come to at rows of rows no two of which lead to one block. -/
import Derived.Test.YtbpipmkgclkhgaaNest
namespace Go.Proofs.Ytbpipmkgclkhgaa.Nest
open Go.RowKit Go.Proofs.Ytbpipmkgclkhgaa.P Go.Proofs.Ytbpipmkgclkhgaa.Pure Go.Proofs.YtbpipmkgclkhgaaW.PrintWords Go.Proofs.YtbpipmkgclkhgaaW.PrintLast Go.Proofs.YtbpipmkgclkhgaaW.PrintMore
set_option linter.unusedVariables false
set_option linter.unusedSimpArgs false

/-- Elements that are rows of one's own, no two elements of which lead to one block. -/
def sliceS {α : Type} (e : Nat) (d : Kd α) : Kd (List α) where
  sz := 1
  E := e :: d.E
  K := (Kd.slice e d).K
  M := fun w base ok xs cs => ∃ v, cs = [v] ∧ Kd.S d e w base ok v xs
  K_len := (Kd.slice e d).K_len
  K_one := (Kd.slice e d).K_one
  K_below := (Kd.slice e d).K_below
  K_of_M := by
    rintro w base ok x cs ⟨v, rfl, h⟩
    exact (Kd.slice e d).K_of_M (w := w) (base := base) (ok := ok) ⟨v, rfl, Kd.S_R h⟩
  M_mono := by
    rintro w base ok ok' x cs hok ⟨v, rfl, h⟩
    exact ⟨v, rfl, Kd.S_mono h hok⟩
  M_bound := by
    rintro w base ok x cs ⟨v, rfl, h⟩
    exact ⟨v, rfl, Kd.S_bound h⟩
  M_move := by
    rintro w w1 base ok x cs hm ⟨v, rfl, h⟩
    exact ⟨v, rfl, Kd.S_move h hm⟩
  M_lower := by
    rintro w base base' ok x cs hb ⟨v, rfl, h⟩
    exact ⟨v, rfl, Kd.S_lower h hb⟩
/-- Rows as they are only read. -/
theorem deep_C {α : Type} {e : Nat} {d : Kd α} {w : World} {A : Option Addr} {n : Nat} {xs : List (List α)} (h : (sliceS e d).C w A n xs) : (Kd.slice e d).C w A n xs := h

/-- How many numbers rows of rows hold. -/
def total3 : List (List (List Int)) → Nat
  | [] => 0
  | x :: l => total x + total3 l
/-- The marks of rows of rows from m on. -/
def marks3 (m : Int) : List (List (List Int)) → List (List (List Int))
  | [] => []
  | x :: l => marks2 m x :: marks3 (m + total x) l
theorem total3_append (a b : List (List (List Int))) : total3 (a ++ b) = total3 a + total3 b := by
  induction a with
  | nil => simp [total3]
  | cons r a ih => simp only [List.cons_append, total3, ih]; omega
theorem marks3_length (l : List (List (List Int))) : ∀ m, (marks3 m l).length = l.length := by
  induction l with
  | nil => intro m; rfl
  | cons r l ih => intro m; simp [marks3, ih]
theorem marks3_append (a b : List (List (List Int))) : ∀ m, marks3 m (a ++ b) = marks3 m a ++ marks3 (m + total3 a) b := by
  induction a with
  | nil => intro m; simp [marks3, total3]
  | cons r a ih => intro m; simp only [List.cons_append, marks3, ih, total3]; rw [show m + (total r : Int) + (total3 a : Int) = m + ((total r + total3 a : Nat) : Int) by omega]
theorem marks3_snoc (m : Int) (a : List (List (List Int))) (r : List (List Int)) : marks3 m (a ++ [r]) = marks3 m a ++ [marks2 (m + total3 a) r] := by
  rw [marks3_append]; rfl
theorem take_total3_le (l : List (List (List Int))) (i : Nat) : total3 (l.take i) ≤ total3 l := by
  have := total3_append (l.take i) (l.drop i)
  rw [List.take_append_drop] at this
  omega
theorem total3_take_succ (l : List (List (List Int))) (i : Nat) (h : i < l.length) : total3 (l.take (i + 1)) = total3 (l.take i) + total l[i] := by
  rw [List.take_succ_eq_append_getElem h, total3_append]
  simp [total3]
theorem set_mid3 (a l : List (List (List Int))) (i : Nat) (x : List (List Int)) (ha : a.length = i) (hi : i < l.length) : (a ++ l.drop i).set i x = (a ++ [x]) ++ l.drop (i + 1) := by
  rw [List.set_append_right _ _ (by omega), List.drop_eq_getElem_cons hi, show i - a.length = 0 by omega, List.set_cons_zero, List.append_assoc]
  rfl

set_option maxHeartbeats 4000000 in
set_option maxRecDepth 10000 in
theorem markInt64SSS_calls (P : Nat → Prop) (v : Value) (l : List (List (List Int))) (m : Int) (w0 w : World) (hB : Below w0.heap.size w0 w) (ho : Kd.S (sliceS 44 (Kd.slice 2 (Kd.int .i64))) 34 w w0.heap.size P v l) (h0 : 0 ≤ m) (h1 : m ≤ 1000) (hl : l.length ≤ 2000000) (ht : total3 l ≤ 2000000) (hw : ∀ x ∈ l, x.length ≤ 2000000) :
    Calls Try.prog 18 #[v, .int .i64 m] w fun e w' => e = .returned (.int .i64 (m + total3 l)) ∧ Kd.S (sliceS 44 (Kd.slice 2 (Kd.int .i64))) 34 w' w0.heap.size P v (marks3 m l) ∧ Below w0.heap.size w0 w' ∧ Kept w w' P := by
  obtain ⟨A, c, rfl, hc⟩ := Kd.S_reads ho
  have HS := Aside0.mk ho
  have HB := Aside0.mk hB
  have HT := Aside0.mk ht
  have HWL := Aside0.mk hw
  clear ho hB hc ht hw
  go_enter Try.func18, Try.ntmps18
  go_wp2
  go_loopg [1, 5] l.length (fun gg u1 u5 wr => ∃ i : Nat, i ≤ l.length ∧ l.length - i ≤ gg ∧ u1 = .int .i64 (m + total3 (l.take i)) ∧ u5 = .int .i64 i ∧ Aside0 (Kd.S (sliceS 44 (Kd.slice 2 (Kd.int .i64))) 34 wr w0.heap.size P (.slice A l.length c) (marks3 m (l.take i) ++ l.drop i)) ∧ Aside0 (Below w0.heap.size w0 wr) ∧ Aside0 (Kept w wr P))
  case atStart => exact ⟨0, Nat.zero_le _, by omega, by simp [total3], rfl, ⟨by simpa [marks3] using HS.out⟩, HB, ⟨Kept.refl _ _⟩⟩
  case round =>
    obtain ⟨i, hi, hg, rfl, rfl, HSi, HBi, HKi⟩ := hrel
    by_cases hlt : i < l.length
    · have hltz : (i : Int) < (l.length : Int) := by omega
      have hln : (marks3 m (l.take i) ++ l.drop i).length = l.length := by simp [marks3_length]; omega
      have hpos := Kd.S_form HSi.out (by omega)
      obtain ⟨g, cap, e1, hg1, hg2, cells, hcells⟩ := hpos
      injection e1 with e1 e2 e3
      subst e1 e3
      clear e2
      obtain ⟨oki, cs, hcs, hM, hcell, hoki, hH⟩ := Kd.S_lend HSi.out ([] : List (List Int)) (i : Int) (by omega) (by omega)
      have hget : (marks3 m (l.take i) ++ l.drop i).getD (i : Int).toNat ([] : List (List Int)) = l[i] := by
        rw [Int.toNat_natCast, List.getD_eq_getElem?_getD, List.getElem?_append_right (by simp [marks3_length]; omega)]
        simp [marks3_length, Nat.min_eq_left hi, show i < l.length by omega]
      rw [hget] at hM
      obtain ⟨v', rfl, hR⟩ := hM
      have hcellv := hcell 0 v' rfl
      obtain ⟨A', c', rfl, hcc', hCC⟩ := Kd.S_reads hR
      have hcell0 : wr.cell? ⟨g, i, none⟩ = some (.slice A' l[i].length c') := by
        have : (i : Int).toNat * (sliceS 44 (Kd.slice 2 (Kd.int .i64))).sz + 0 = i := by show (i : Int).toNat * 1 + 0 = i; omega
        rw [this] at hcellv; exact hcellv
      have hr1 := total3_take_succ l i hlt
      have hr2 := take_total3_le l (i + 1)
      have hT := HT.out
      have hxl := HWL.out l[i] (List.getElem_mem hlt)
      have HQ1 : Aside0 (0 ≤ m + (total3 (l.take i) : Int)) := ⟨by omega⟩
      have HQ2 : Aside0 (m + (total3 (l.take i) : Int) ≤ 4000000) := ⟨by omega⟩
      have HQ3 : Aside0 (l[i].length ≤ 4000000) := ⟨by omega⟩
      have HQ4 : Aside0 (total l[i] ≤ 4000000) := ⟨by omega⟩
      have HH := Aside0.mk hH
      have HR := Aside0.mk hR
      have HO := Aside0.mk hoki
      have e4 : m + (total3 (l.take i) : Int) + (total l[i] : Int) = m + (total3 (l.take (i + 1)) : Int) := by omega
      have E4 := Aside0.mk e4
      have HLN := Aside0.mk hln
      clear hH hR hcell hcellv hoki hget hCC hcells hr1 e4 hT hr2 hcs hln hcc' hxl
      generalize hrow : l[i] = row at *
      have HROW := Aside0.mk hrow
      clear hrow
      go_wp2_with (go_at_call 31; refine (markInt64SS_calls oki (.slice A' row.length c') row (m + total3 (l.take i)) w0 _ HBi.out HR.out HQ1.out HQ2.out HQ3.out HQ4.out).mono ?_; rw [E4.out]; rintro e w' ⟨rfl, hR', hB', hK'⟩)
      go_roundg (l.length - (i + 1))
      case measure => omega
      case rel =>
        refine ⟨i + 1, by omega, by omega, rfl, by go_num, ⟨?_⟩, ⟨hB'⟩, ⟨HKi.out.then_ hK' (fun k hk => .inl (HO.out k hk).1)⟩⟩
        have h2 := Kd.H_back (Kd.H_kept HH.out hK' (fun k _ hn => hn)) (okp := oki) (x' := marks2 (m + total3 (l.take i)) row) ⟨_, rfl, hR'⟩ (fun k hk => hk)
        have e5 : (marks3 m (l.take i) ++ l.drop i).set (i : Int).toNat (marks2 (m + total3 (l.take i)) row) = marks3 m (l.take (i + 1)) ++ l.drop (i + 1) := by
          rw [Int.toNat_natCast, set_mid3 _ _ _ _ (by rw [marks3_length, List.length_take]; omega) hlt, List.take_succ_eq_append_getElem hlt, HROW.out, marks3_snoc]
        rw [e5] at h2
        exact h2
    · have hltz : ¬ (i : Int) < (l.length : Int) := by omega
      have hii : i = l.length := by omega
      subst hii
      go_wp2
      go_ret
      refine ⟨?_, ?_, HBi.out, HKi.out⟩
      · simp
      · have := HSi.out
        simpa using this
end Go.Proofs.Ytbpipmkgclkhgaa.Nest
