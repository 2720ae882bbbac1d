/- A word's letters are those of an alphabet. -/
import Derived.Test.YtbpipmkgclkhgaaBaseInts0
namespace Go.Proofs.Ytbpipmkgclkhgaa.Pure
open Go.RowKit Go.Proofs.Ytbpipmkgclkhgaa.P Go.Proofs.YtbpipmkgclkhgaaW.PrintWords Go.Proofs.YtbpipmkgclkhgaaW.PrintLast
set_option linter.unusedVariables false

def okW (d : Nat) (s : ByteArray) : Prop := ∀ i : Nat, i < s.size → 48 ≤ bt s i ∧ bt s i < 48 + (d : Int)

end Go.Proofs.Ytbpipmkgclkhgaa.Pure
