/- What a call of the law on tables of words comes to: the walk and the plain law together. -/
import Derived.Test.YtbpipmkgclkhgaaWalkTablesOfWord
import Derived.Test.YtbpipmkgclkhgaaBaseTabsOf
namespace Go.Proofs.Ytbpipmkgclkhgaa.Join
open Go.RowKit Go.Proofs.Ytbpipmkgclkhgaa.P Go.Proofs.Ytbpipmkgclkhgaa.Pure Go.Proofs.Ytbpipmkgclkhgaa.Nest Go.Proofs.YtbpipmkgclkhgaaW.PrintWords Go.Proofs.YtbpipmkgclkhgaaW.PrintLast
set_option linter.unusedVariables false

theorem FnExactTablesOfWord (a : Int) (s : ByteArray) (W : World) (_ : (Lit.int .i64 a).wf = true) (_ : s.size ≤ 140737488351232) :
    Calls Try.prog 5 #[.int .i64 a, .string s] W fun e w' => e = .returned (.bool true) ∧ Below W.heap.size W w' := by
  by_cases hs : 1048576 < s.size
  · exact walk_long1 a s W hs
  · have hS := spec_TablesOfWord_f 5000000 a s (by omega) (by omega)
    have hI := impl_TablesOfWord_ff 5000000 a s (by omega) (by omega)
    have hr := toRes_small a s
    generalize toRes a s = R at hS hI hr
    obtain ⟨r, c⟩ := R
    exact walk_main a s r c W (by omega) hr hS hI

end Go.Proofs.Ytbpipmkgclkhgaa.Join
