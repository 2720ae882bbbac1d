/- What a call of the law on the turn's tables comes to: the walk and the plain law together. -/
import Derived.Test.YtbpipmkgclkhgaaWalkTurnTables
namespace Go.Proofs.Ytbpipmkgclkhgaa.Join
open Go.RowKit Go.Proofs.Ytbpipmkgclkhgaa.P Go.Proofs.Ytbpipmkgclkhgaa.Pure Go.Proofs.Ytbpipmkgclkhgaa.Nest Go.Proofs.YtbpipmkgclkhgaaW.PrintWords Go.Proofs.YtbpipmkgclkhgaaW.PrintLast
set_option linter.unusedVariables false

theorem FnExactTurnTables (W : World) :
    Calls Try.prog 3 #[] W fun e w' => e = .returned (.bool true) ∧ Below W.heap.size W w' := by
  refine walk_main [[[0, 1], [0, 0]], [[0, 0], [1, 0]]] W ⟨by decide, by decide, ?_⟩ rfl rfl
  intro x hx
  simp only [List.mem_cons, List.not_mem_nil, or_false] at hx
  rcases hx with rfl | rfl <;> decide

end Go.Proofs.Ytbpipmkgclkhgaa.Join
