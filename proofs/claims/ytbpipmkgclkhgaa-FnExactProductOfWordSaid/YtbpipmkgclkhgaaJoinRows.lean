/- What calls of the laws on tables come to: the walk and the plain law together. -/
import Derived.Test.YtbpipmkgclkhgaaHandRows
import Derived.Test.YtbpipmkgclkhgaaHandRows3
namespace Go.Proofs.Ytbpipmkgclkhgaa.Join
open Go.RowKit Go.Proofs.Ytbpipmkgclkhgaa.P Go.Proofs.YtbpipmkgclkhgaaW.PrintWords Go.Proofs.YtbpipmkgclkhgaaW.PrintLast
set_option linter.unusedVariables false

theorem rows3_small {W : World} {A : Option Addr} {l : List (List (List Int))} (h : Kd.C (Kd.slice 44 (Kd.slice 2 (Kd.int .i64))) W A l.length l) : ∀ m ∈ l, m.length ≤ 9223372036854775807 ∧ ∀ r ∈ m, r.length ≤ 9223372036854775807 := by
  intro m hm
  obtain ⟨i, hi, rfl⟩ := List.getElem_of_mem hm
  obtain ⟨ad, A0, c0, _, _, _, hC⟩ := Hand.at_rows3 h (i : Int) (by omega) (by omega)
  have hy : Hand.rdR3 l i = l[i] := by simp [Hand.rdR3, hi]
  rw [hy] at hC
  refine ⟨Kd.C_max hC, fun r hr => ?_⟩
  obtain ⟨j, hj, rfl⟩ := List.getElem_of_mem hr
  obtain ⟨_, _, _, _, _, _, hD⟩ := Hand.at_rows hC (j : Int) (by omega) (by omega)
  have hz : Hand.rdR l[i] j = l[i][j] := by simp [Hand.rdR, hj]
  rw [hz] at hD
  exact Kd.C_max hD
end Go.Proofs.Ytbpipmkgclkhgaa.Join
