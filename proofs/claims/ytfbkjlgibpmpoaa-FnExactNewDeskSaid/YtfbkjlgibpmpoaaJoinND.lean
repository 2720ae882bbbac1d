/- What a call of the law on new desks comes to. -/
import Derived.Test.YtfbkjlgibpmpoaaWalkNewDesk
namespace Go.Proofs.Ytfbkjlgibpmpoaa.Join
open Go.RowKit Go.Proofs.Ytfbkjlgibpmpoaa.P Go.Proofs.Ytfbkjlgibpmpoaa.Nest
theorem FnExactNewDesk (W : World) :
    Calls Try.prog 3 #[] W fun e w' => e = .returned (.bool true) ∧ Below W.heap.size W w' := walk_desk W
end Go.Proofs.Ytfbkjlgibpmpoaa.Join
