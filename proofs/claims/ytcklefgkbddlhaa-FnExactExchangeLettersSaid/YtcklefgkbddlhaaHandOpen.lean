/- Lists of lists of whole numbers that come in: how they are read. -/
import Derived.Test.YtcklefgkbddlhaaPx0
import Derived.Deep.Matrix
namespace Go.Proofs.Ytcklefgkbddlhaa.Hand
open Go.RowKit Go.Deep Go.Proofs.Ytcklefgkbddlhaa.P Go.Proofs.YtcklefgkbddlhaaW.PrintWords Go.Proofs.YtcklefgkbddlhaaW.PrintLast Go.Proofs.YtcklefgkbddlhaaW.PrintMore
set_option linter.unusedVariables false
set_option linter.unusedSimpArgs false

/-- A row of rows as it came in. -/
def InRows (W : World) (A : Option Addr) (len cap : Nat) (l : List (List Int)) : Prop :=
  Kd.C (Kd.slice 2 (Kd.int .i64)) W A len l ∧ len ≤ cap ∧ l.length = len ∧ ∀ r ∈ l, ∀ n ∈ r, (Lit.int .i64 n).wf = true
theorem in_rows {H : Type} {enc : TypeId × Value → H} {W : World} {base : Nat} {held : Bool} {A : Option Addr} {len cap fuel : Nat} {x : DataW H × List MemPlace}
    (h : DataW.trod enc Try.prog W base (fun _ => true) held fuel 62 [.slice A len cap] = some x) : ∃ l, InRows W A len cap l := by
  rcases open_int_rows Try.underlying62 Try.underlying48 Try.underlying2 (by kernel_rfl) (by kernel_rfl) h with ⟨hcs, _⟩ | ⟨a, n, c, A', L, C, Z, hcs, _, hl, hm, _, hr⟩
  · simp only [List.cons.injEq, Value.slice.injEq, and_true] at hcs
    obtain ⟨rfl, rfl, rfl⟩ := hcs
    exact ⟨[], Kd.C_nil _ _, Nat.le_refl _, rfl, fun r hr => by cases hr⟩
  · simp only [List.cons.injEq, Value.slice.injEq, and_true] at hcs
    obtain ⟨rfl, rfl, rfl⟩ := hcs
    have hM : maxLen = 9223372036854775807 := rfl
    refine ⟨(List.range len).map fun r => (Z r).take (L r), ⟨by simp, by omega, fun h0 => ⟨a, rfl, fun j p hj => ?_⟩⟩, hl, by simp, ?_⟩
    · have hjn : j < len := by
        rcases Nat.lt_or_ge j len with h | h
        · exact h
        · rw [List.getElem?_eq_none (by simpa using h)] at hj; cases hj
      obtain ⟨hc0, hLC, hCm, hZ, hwf, hnil, hcell⟩ := hr j (by omega)
      have hp : p = (Z j).take (L j) := by
        rw [List.getElem?_map, List.getElem?_range hjn] at hj
        simpa using hj.symm
      subst hp
      have hlen : ((Z j).take (L j)).length = L j := by rw [List.length_take]; omega
      refine ⟨[.slice (A' j) (L j) (C j)], rfl, ⟨A' j, C j, by rw [hlen], by omega, ?_⟩, fun i u hi => ?_⟩
      · rw [hlen]
        refine ⟨hlen, by omega, fun h1 => ?_⟩
        cases e : A' j with
        | none => have := hnil e; omega
        | some a' =>
          refine ⟨a', rfl, fun i p hi => ?_⟩
          have hi2 : i < L j := by
            rcases Nat.lt_or_ge i (L j) with h | h
            · exact h
            · rw [List.getElem?_eq_none (by omega)] at hi; cases hi
          have hpz : (Z j).getD i 0 = p := by
            rw [List.getElem?_take_of_lt hi2] at hi
            simp [List.getD_eq_getElem?_getD, hi]
          refine ⟨[.int .i64 p], rfl, rfl, fun q u hq => ?_⟩
          have hcc := (hcell a' e).2 i (by omega)
          rw [hpz] at hcc
          match q, hq with
          | 0, hq =>
            simp only [List.getElem?_cons_zero, Option.some.injEq] at hq
            subst hq
            show W.cell? (a'.add (i * 1 + 0)) = _
            rw [show i * 1 + 0 = i by omega]; exact hcc
      · match i, hi with
        | 0, hi =>
          simp only [List.getElem?_cons_zero, Option.some.injEq] at hi
          subst hi
          show W.cell? (a.add (j * 1 + 0)) = _
          rw [show j * 1 + 0 = j by omega]; exact hc0
    · intro r hr' n hn
      obtain ⟨j, hj, rfl⟩ := List.mem_map.1 hr'
      obtain ⟨_, _, _, _, hwf, _⟩ := hr j (by have := List.mem_range.1 hj; omega)
      exact hwf n (List.mem_of_mem_take hn)
end Go.Proofs.Ytcklefgkbddlhaa.Hand
