/- A word's letters are those of an alphabet. -/
import Derived.Test.YtfbkjlgibpmpoaaBaseCopies
namespace Go.Proofs.Ytfbkjlgibpmpoaa.Pure
open Go.RowKit Go.Proofs.Ytfbkjlgibpmpoaa.P Go.Proofs.YtfbkjlgibpmpoaaW.PrintWords Go.Proofs.YtfbkjlgibpmpoaaW.PrintLast
set_option linter.unusedVariables false

def okW (d : Nat) (s : ByteArray) : Prop := ∀ i : Nat, i < s.size → 48 ≤ bt s i ∧ bt s i < 48 + (d : Int)

end Go.Proofs.Ytfbkjlgibpmpoaa.Pure
