/- What a call of the law on IsUnchanged comes to: the walk and the plain law together. -/
import Derived.Test.YtcklefgkbddlhaaHandOpenT
import Derived.Test.YtcklefgkbddlhaaHandRows
import Derived.Test.YtcklefgkbddlhaaPureFnExactIsUnchanged
namespace Go.Proofs.Ytcklefgkbddlhaa.Join
open Go.RowKit Go.Proofs.Ytcklefgkbddlhaa.P Go.Proofs.YtcklefgkbddlhaaW.PrintWords Go.Proofs.YtcklefgkbddlhaaW.PrintLast
set_option linter.unusedVariables false

theorem rows_small {W : World} {A : Option Addr} {l : List (List Int)} (h : Kd.C (Kd.slice 2 (Kd.int .i64)) W A l.length l) : ∀ r ∈ l, r.length ≤ 9223372036854775807 := by
  intro r hr
  obtain ⟨i, hi, rfl⟩ := List.getElem_of_mem hr
  obtain ⟨ad, A0, c0, _, _, _, hC⟩ := Hand.at_rows h (i : Int) (by omega) (by omega)
  have hy : Hand.rdR l i = l[i] := by simp [Hand.rdR, hi]
  rw [hy] at hC
  exact Kd.C_max hC
theorem FnExactIsUnchanged (d n : Int) (A : Option Addr) (len c : Nat) (l : List S124) (A2 : Option Addr) (c2 : Nat) (T : List (List Int)) (W : World) (h : Hand.InTerms W A len c l) (h2 : Kd.C (Kd.slice 2 (Kd.int .i64)) W A2 T.length T) (hc2 : T.length ≤ c2) (_ : ∀ r ∈ T, ∀ n ∈ r, (Lit.int .i64 n).wf = true) :
    Calls Try.prog 10 #[.agg #[.int .i64 d, .int .i64 n, .slice A len c], .slice A2 T.length c2] W fun e w' => e = .returned (.bool true) ∧ Below W.heap.size W w' := by
  obtain ⟨hC, hc, rfl, hf⟩ := h
  obtain ⟨k, hk⟩ := Pure.unch_law d n l T (fun x hx => (hf x hx).1) (Kd.C_max hC) (rows_small h2) (Kd.C_max h2)
  exact laws_FnExactIsUnchanged.calls k d n A c l A2 c2 T true W hC hc h2 hc2 hk
end Go.Proofs.Ytcklefgkbddlhaa.Join
