/- For every number of letters and all tables the program's AreTables returns what the reference's returns. -/
import Derived.Test.YtbpipmkgclkhgaaPx5
import Derived.Test.YtbpipmkgclkhgaaPx4
import Derived.Test.YtbpipmkgclkhgaaBaseAre
namespace Go.Proofs.Ytbpipmkgclkhgaa.Pure
open Go.RowKit Go.Proofs.Ytbpipmkgclkhgaa.P Go.Proofs.YtbpipmkgclkhgaaW.PrintWords Go.Proofs.YtbpipmkgclkhgaaW.PrintLast
set_option linter.unusedVariables false
set_option linter.unusedSimpArgs false

theorem FnExactAreTables (d : Int) (l : List (List (List Int))) (hl : l.length ≤ 9223372036854775807) (hw : ∀ m ∈ l, m.length ≤ 9223372036854775807 ∧ ∀ r ∈ m, r.length ≤ 9223372036854775807) : ∃ k, laws_FnExactAreTables.f k d l = some true := by
  refine ⟨5000000, ?_⟩
  obtain ⟨K, hK⟩ : ∃ K : Nat, K = 5000000 := ⟨_, rfl⟩
  rw [← hK]
  unfold laws_FnExactAreTables.f
  obtain ⟨t, ht, h2⟩ := szSSS_f K l hw hl (by omega)
  rw [ht, Option.bind_some]
  by_cases hn : t < 0
  · rw [if_pos hn]
  rw [if_neg hn]
  have h3 : l.length ≤ 1048576 ∧ size3 l ≤ 1048576 := by omega
  have T := toSSS_f K l h3.1 h3.2 (by omega)
  have E := eqSSS_f K l h3.1 h3.2 (by omega)
  have S := spec_l08Are_f K d l (by omega) (by omega)
  have I := impl_AreTables_f d l
  simp only [T, E, Option.bind_some, spec_AreTables.f, S, I, bne_self_eq_false, Bool.false_eq_true, if_false, if_true]

end Go.Proofs.Ytbpipmkgclkhgaa.Pure
