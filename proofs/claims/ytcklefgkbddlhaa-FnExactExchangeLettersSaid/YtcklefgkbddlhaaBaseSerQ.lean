/- Plain lemmas: the order of words. -/
import Derived.Test.YtcklefgkbddlhaaPx5
import Derived.Test.YtcklefgkbddlhaaBaseCopies0
namespace Go.Proofs.Ytcklefgkbddlhaa.Pure
open Go.RowKit Go.Proofs.Ytcklefgkbddlhaa.P Go.Proofs.YtcklefgkbddlhaaW.PrintWords Go.Proofs.YtcklefgkbddlhaaW.PrintLast
set_option linter.unusedVariables false
set_option linter.unusedSimpArgs false

theorem rdI_nat (l : List S89) (i : Nat) (h : i < l.length) : rd_T89 l (i : Int) = l[i] := by simp [rd_T89, List.getD_eq_getElem?_getD, h]
/-- The order of words. -/
def befW (v w : ByteArray) : Bool := if v.size = w.size then Op.bytesLess v.toList w.toList else decide (v.size < w.size)
theorem spec_before_f (v w : ByteArray) : spec_l01Before.f v w = some (befW v w) := by
  unfold spec_l01Before.f befW
  by_cases h : v.size = w.size
  · rw [if_pos (by omega), if_pos h]
  · rw [if_neg (by omega), if_neg h]
    congr 1
    rw [decide_eq_decide]
    omega
end Go.Proofs.Ytcklefgkbddlhaa.Pure
