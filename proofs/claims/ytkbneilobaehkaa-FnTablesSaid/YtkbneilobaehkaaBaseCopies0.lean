/- Plain lemmas on wrapped numbers. -/
import Derived.Test.YtkbneilobaehkaaPx4
namespace Go.Proofs.Ytkbneilobaehkaa.Pure
open Go.RowKit Go.Proofs.Ytkbneilobaehkaa.P Go.Proofs.YtkbneilobaehkaaW.PrintWords Go.Proofs.YtkbneilobaehkaaW.PrintLast
set_option linter.unusedVariables false
set_option linter.unusedSimpArgs false

theorem wrap_of (i : Int) (h0 : -9223372036854775808 ≤ i) (h1 : i ≤ 9223372036854775807) : wrap64 i = i := by unfold wrap64; omega
theorem wrap_nat (i : Nat) (h : i < 4611686018427387904) : wrap64 ((i : Int) + 1) = ((i + 1 : Nat) : Int) := by unfold wrap64; omega
theorem rd_nat (l : List Int) (i : Nat) (h : i < l.length) : rd l (i : Int) = l[i] := by simp [rd, h]
end Go.Proofs.Ytkbneilobaehkaa.Pure
