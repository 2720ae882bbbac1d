/- What a call of the law on ReadByTables comes to: the walk and the plain law together. -/
import Derived.Test.YtcklefgkbddlhaaHandOpenT
import Derived.Test.YtcklefgkbddlhaaPureFnExactReadByTables
namespace Go.Proofs.Ytcklefgkbddlhaa.Join
open Go.RowKit Go.Proofs.Ytcklefgkbddlhaa.P Go.Proofs.YtcklefgkbddlhaaW.PrintWords Go.Proofs.YtcklefgkbddlhaaW.PrintLast
set_option linter.unusedVariables false

theorem FnExactReadByTables (d n : Int) (A : Option Addr) (len c : Nat) (l : List S124) (s : ByteArray) (W : World) (h : Hand.InTerms W A len c l) (hs : s.size ≤ 140737488351232) :
    Calls Try.prog 3 #[.agg #[.int .i64 d, .int .i64 n, .slice A len c], .string s] W fun e w' => e = .returned (.bool true) ∧ Below W.heap.size W w' := by
  obtain ⟨hC, hc, rfl, hf⟩ := h
  obtain ⟨k, hk⟩ := Pure.read_law d n l s (fun x hx => (hf x hx).1) (Kd.C_max hC)
  exact laws_FnExactReadByTables.calls k d n A c l s true W hC hc hk
end Go.Proofs.Ytcklefgkbddlhaa.Join
