/- What a call of the law on tables that vanish comes to: the walk and the plain law together. -/
import Derived.Test.YtbpipmkgclkhgaaJoinRows
import Derived.Test.YtbpipmkgclkhgaaPureFnExactVanishAt
namespace Go.Proofs.Ytbpipmkgclkhgaa.Join
open Go.RowKit Go.Proofs.Ytbpipmkgclkhgaa.P Go.Proofs.YtbpipmkgclkhgaaW.PrintWords Go.Proofs.YtbpipmkgclkhgaaW.PrintLast
set_option linter.unusedVariables false

theorem FnExactVanishAt (a : Int) (A : Option Addr) (c : Nat) (l : List (List (List Int))) (n : Int) (W : World) (_ : (Lit.int .i64 a).wf = true) (h : Kd.C (Kd.slice 44 (Kd.slice 2 (Kd.int .i64))) W A l.length l) (hc : l.length ≤ c) (_ : ∀ m ∈ l, ∀ r ∈ m, ∀ n ∈ r, (Lit.int .i64 n).wf = true) (_ : (Lit.int .i64 n).wf = true) :
    Calls Try.prog 8 #[.int .i64 a, .slice A l.length c, .int .i64 n] W fun e w' => e = .returned (.bool true) ∧ Below W.heap.size W w' := by
  obtain ⟨k, hk⟩ := Pure.FnExactVanishAt a l n (Kd.C_max h) (rows3_small h)
  exact laws_FnExactVanishAt.calls k a A c l n true W h hc hk

end Go.Proofs.Ytbpipmkgclkhgaa.Join
