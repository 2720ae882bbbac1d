/- For every number of letters and all tables the program's DoTablesCommute returns what the reference's returns. -/
import Derived.Test.YtbpipmkgclkhgaaPx11
import Derived.Test.YtbpipmkgclkhgaaPx8
import Derived.Test.YtbpipmkgclkhgaaBaseComm
namespace Go.Proofs.Ytbpipmkgclkhgaa.Pure
open Go.RowKit Go.Proofs.Ytbpipmkgclkhgaa.P Go.Proofs.YtbpipmkgclkhgaaW.PrintWords Go.Proofs.YtbpipmkgclkhgaaW.PrintLast
set_option linter.unusedVariables false
set_option linter.unusedSimpArgs false

theorem FnExactDoTablesCommute (d : Int) (l : List (List (List Int))) (hl : l.length ≤ 9223372036854775807) (hw : ∀ m ∈ l, m.length ≤ 9223372036854775807 ∧ ∀ r ∈ m, r.length ≤ 9223372036854775807) : ∃ k, laws_FnExactDoTablesCommute.f k d l = some true := by
  refine ⟨5000001, ?_⟩
  obtain ⟨K, hK⟩ : ∃ K : Nat, K = 5000000 := ⟨_, rfl⟩
  rw [show (5000001 : Nat) = K + 1 from by omega]
  unfold laws_FnExactDoTablesCommute.f
  obtain ⟨t, ht, h2⟩ := szSSS_f (K + 1) l hw hl (by omega)
  rw [ht, Option.bind_some]
  by_cases hn : t < 0
  · rw [if_pos hn]
  rw [if_neg hn]
  have h3 : l.length ≤ 1048576 ∧ size3 l ≤ 1048576 := by omega
  have T1 := toSSS_f (K + 1) l h3.1 h3.2 (by omega)
  have T := toSSS_f K l h3.1 h3.2 (by omega)
  have E := eqSSS_f K l h3.1 h3.2 (by omega)
  have S := spec_DoTablesCommute_f (K + 1) d l (by omega) (by omega)
  have I := impl_DoTablesCommute_f (K + 1) d l (by omega)
  simp only [T1, T, E, Option.bind_some, S, I, bne_self_eq_false, Bool.false_eq_true, if_false, if_true, laws_FnExactDoTablesCommute.j0]

end Go.Proofs.Ytbpipmkgclkhgaa.Pure
