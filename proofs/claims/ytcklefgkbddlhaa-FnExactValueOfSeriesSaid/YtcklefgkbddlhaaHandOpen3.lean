/- Lists of lists of lists of whole numbers that come in: how they are read. -/
import Derived.Test.YtcklefgkbddlhaaHandOpen
namespace Go.Proofs.Ytcklefgkbddlhaa.Hand
open Go.RowKit Go.Deep Go.Proofs.Ytcklefgkbddlhaa.P Go.Proofs.YtcklefgkbddlhaaW.PrintWords Go.Proofs.YtcklefgkbddlhaaW.PrintLast Go.Proofs.YtcklefgkbddlhaaW.PrintMore
set_option linter.unusedVariables false
set_option linter.unusedSimpArgs false

/-- A row of matrices as it came in. -/
def InRows3 (W : World) (A : Option Addr) (len cap : Nat) (l : List (List (List Int))) : Prop :=
  Kd.C (Kd.slice 48 (Kd.slice 2 (Kd.int .i64))) W A len l ∧ len ≤ cap ∧ l.length = len ∧ ∀ m ∈ l, ∀ r ∈ m, ∀ n ∈ r, (Lit.int .i64 n).wf = true
theorem in_row_value {H : Type} {enc : TypeId × Value → H} {W : World} {base : Nat} {held : Bool} {v : Value} {fuel : Nat} {x : DataW H × List MemPlace}
    (h : DataW.trod enc Try.prog W base (fun _ => true) held fuel 62 [v] = some x) : ∃ y : Option Addr × Nat × Nat × List (List Int), v = .slice y.1 y.2.1 y.2.2.1 ∧ InRows W y.1 y.2.1 y.2.2.1 y.2.2.2 := by
  rcases open_int_rows Try.underlying62 Try.underlying48 Try.underlying2 (by kernel_rfl) (by kernel_rfl) h with ⟨hcs, _⟩ | ⟨a, n, c, _, _, _, _, hcs, _⟩
  · simp only [List.cons.injEq, and_true] at hcs
    subst hcs
    obtain ⟨l, hl⟩ := in_rows h
    exact ⟨(none, 0, 0, l), rfl, hl⟩
  · simp only [List.cons.injEq, and_true] at hcs
    subst hcs
    obtain ⟨l, hl⟩ := in_rows h
    exact ⟨(some a, n, c, l), rfl, hl⟩
theorem in_rows3 {H : Type} {enc : TypeId × Value → H} {W : World} {base : Nat} {held : Bool} {A : Option Addr} {len cap fuel : Nat} {x : DataW H × List MemPlace}
    (h : DataW.trod enc Try.prog W base (fun _ => true) held fuel 37 [.slice A len cap] = some x) : ∃ l, InRows3 W A len cap l := by
  rcases open_slice1 Try.underlying37 (by kernel_rfl) h with ⟨hcs, _⟩ | ⟨a, n, c, m, f, V, D, Pl, hcs, _, hl, hm, hmm, _, hr⟩
  · simp only [List.cons.injEq, Value.slice.injEq, and_true] at hcs
    obtain ⟨rfl, rfl, rfl⟩ := hcs
    exact ⟨[], Kd.C_nil _ _, Nat.le_refl _, rfl, fun r hr => by cases hr⟩
  · simp only [List.cons.injEq, Value.slice.injEq, and_true] at hcs
    obtain ⟨rfl, rfl, rfl⟩ := hcs
    simp only [if_true] at hmm
    subst hmm
    have hM : maxLen = 9223372036854775807 := rfl
    obtain ⟨y, hy⟩ := choose_lt (fun r hr' => in_row_value (hr r hr').2)
    refine ⟨(List.range len).map fun r => (y r).2.2.2, ⟨by simp, by omega, fun h0 => ⟨a, rfl, fun j p hj => ?_⟩⟩, hl, by simp, ?_⟩
    · have hjn : j < len := by
        rcases Nat.lt_or_ge j len with h | h
        · exact h
        · rw [List.getElem?_eq_none (by simpa using h)] at hj; cases hj
      have hp : p = (y j).2.2.2 := by
        rw [List.getElem?_map, List.getElem?_range hjn] at hj
        simpa using hj.symm
      subst hp
      obtain ⟨hV, hC, hLC, hlen, hwf⟩ := hy j (by omega)
      have hc0 := (hr j (by omega)).1
      rw [hV] at hc0
      refine ⟨[.slice (y j).1 (y j).2.1 (y j).2.2.1], rfl, ⟨(y j).1, (y j).2.2.1, by rw [hlen], by omega, by rw [hlen]; exact hC⟩, fun i u hi => ?_⟩
      match i, hi with
      | 0, hi =>
        simp only [List.getElem?_cons_zero, Option.some.injEq] at hi
        subst hi
        show W.cell? (a.add (j * 1 + 0)) = _
        rw [show j * 1 + 0 = j by omega]; exact hc0
    · intro m hm'
      obtain ⟨j, hj, rfl⟩ := List.mem_map.1 hm'
      obtain ⟨_, _, _, _, hwf⟩ := hy j (by have := List.mem_range.1 hj; omega)
      exact hwf
end Go.Proofs.Ytcklefgkbddlhaa.Hand
