/- Plain lemmas: how many numbers rows of rows hold. -/
import Derived.Test.YtbpipmkgclkhgaaNest3
import Derived.Test.YtbpipmkgclkhgaaBaseTables
namespace Go.Proofs.Ytbpipmkgclkhgaa.Nest
open Go.RowKit Go.Proofs.Ytbpipmkgclkhgaa.P Go.Proofs.Ytbpipmkgclkhgaa.Pure Go.Proofs.YtbpipmkgclkhgaaW.PrintWords Go.Proofs.YtbpipmkgclkhgaaW.PrintLast
set_option linter.unusedVariables false

theorem total_size2 (l : List (List Int)) : total l = size2 l := by
  induction l with
  | nil => rfl
  | cons r l ih => rw [total, size2, ih]
theorem total3_size3 (l : List (List (List Int))) : total3 l ≤ size3 l := by
  induction l with
  | nil => exact Nat.le_refl _
  | cons r l ih => rw [total3, size3, total_size2]; omega
end Go.Proofs.Ytbpipmkgclkhgaa.Nest
