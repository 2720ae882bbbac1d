/- For every number of letters and all tables and levels the program's VanishAt returns what the reference's returns. -/
import Derived.Test.YtbpipmkgclkhgaaPx10
import Derived.Test.YtbpipmkgclkhgaaPx7
import Derived.Test.YtbpipmkgclkhgaaBaseVan
namespace Go.Proofs.Ytbpipmkgclkhgaa.Pure
open Go.RowKit Go.Proofs.Ytbpipmkgclkhgaa.P Go.Proofs.YtbpipmkgclkhgaaW.PrintWords Go.Proofs.YtbpipmkgclkhgaaW.PrintLast
set_option linter.unusedVariables false
set_option linter.unusedSimpArgs false

theorem FnExactVanishAt (d : Int) (l : List (List (List Int))) (n : Int) (hl : l.length ≤ 9223372036854775807) (hw : ∀ m ∈ l, m.length ≤ 9223372036854775807 ∧ ∀ r ∈ m, r.length ≤ 9223372036854775807) : ∃ k, laws_FnExactVanishAt.f k d l n = some true := by
  refine ⟨5000001, ?_⟩
  obtain ⟨K, hK⟩ : ∃ K : Nat, K = 5000000 := ⟨_, rfl⟩
  rw [show (5000001 : Nat) = K + 1 from by omega]
  unfold laws_FnExactVanishAt.f
  obtain ⟨t, ht, h2⟩ := szSSS_f (K + 1) l hw hl (by omega)
  rw [ht, Option.bind_some]
  by_cases hneg : t < 0
  · rw [if_pos hneg]
  rw [if_neg hneg]
  have h3 : l.length ≤ 1048576 ∧ size3 l ≤ 1048576 := by omega
  have T1 := toSSS_f (K + 1) l h3.1 h3.2 (by omega)
  have T := toSSS_f K l h3.1 h3.2 (by omega)
  have E := eqSSS_f K l h3.1 h3.2 (by omega)
  have S := spec_VanishAt_f (K + 1) d l n (by omega) (by omega)
  have I := impl_VanishAt_f (K + 1) d l n (by omega)
  simp only [T1, T, E, Option.bind_some, S, I, bne_self_eq_false, Bool.false_eq_true, if_false, if_true, laws_FnExactVanishAt.j0]

end Go.Proofs.Ytbpipmkgclkhgaa.Pure
