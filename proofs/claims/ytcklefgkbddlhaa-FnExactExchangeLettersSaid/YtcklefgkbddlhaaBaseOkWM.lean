/- A word's letters are those of an alphabet. -/
import Derived.Test.YtcklefgkbddlhaaBaseCopies0
namespace Go.Proofs.Ytcklefgkbddlhaa.Pure
open Go.RowKit Go.Proofs.Ytcklefgkbddlhaa.P Go.Proofs.YtcklefgkbddlhaaW.PrintWords Go.Proofs.YtcklefgkbddlhaaW.PrintLast
set_option linter.unusedVariables false

def okW (d : Nat) (s : ByteArray) : Prop := ∀ i : Nat, i < s.size → 48 ≤ bt s i ∧ bt s i < 48 + (d : Int)

end Go.Proofs.Ytcklefgkbddlhaa.Pure
