/- What calls of the laws on tables come to: the walk and the plain law together. -/
import Derived.Test.YtbpipmkgclkhgaaJoinRows
import Derived.Test.YtbpipmkgclkhgaaPureFnExactDoTablesCommute
namespace Go.Proofs.Ytbpipmkgclkhgaa.Join
open Go.RowKit Go.Proofs.Ytbpipmkgclkhgaa.P Go.Proofs.YtbpipmkgclkhgaaW.PrintWords Go.Proofs.YtbpipmkgclkhgaaW.PrintLast
set_option linter.unusedVariables false

theorem FnExactDoTablesCommute (a : Int) (A : Option Addr) (c : Nat) (l : List (List (List Int))) (W : World) (_ : (Lit.int .i64 a).wf = true) (h : Kd.C (Kd.slice 44 (Kd.slice 2 (Kd.int .i64))) W A l.length l) (hc : l.length ≤ c) (_ : ∀ m ∈ l, ∀ r ∈ m, ∀ n ∈ r, (Lit.int .i64 n).wf = true) :
    Calls Try.prog 6 #[.int .i64 a, .slice A l.length c] W fun e w' => e = .returned (.bool true) ∧ Below W.heap.size W w' := by
  obtain ⟨k, hk⟩ := Pure.FnExactDoTablesCommute a l (Kd.C_max h) (rows3_small h)
  exact laws_FnExactDoTablesCommute.calls k a A c l true W h hc hk

end Go.Proofs.Ytbpipmkgclkhgaa.Join
