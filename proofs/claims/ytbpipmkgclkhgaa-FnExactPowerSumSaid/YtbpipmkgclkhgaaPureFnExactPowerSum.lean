/- For every list and all parts the program's PowerSum returns what the reference's returns, and leaves its arguments as they were. -/
import Derived.Test.YtbpipmkgclkhgaaPx5
import Derived.Test.YtbpipmkgclkhgaaBasePow
namespace Go.Proofs.Ytbpipmkgclkhgaa.Pure
open Go.RowKit Go.Proofs.Ytbpipmkgclkhgaa.P Go.Proofs.YtbpipmkgclkhgaaW.PrintWords Go.Proofs.YtbpipmkgclkhgaaW.PrintLast
set_option linter.unusedVariables false
set_option linter.unusedSimpArgs false

theorem impl_PowerSum_some (l0 l1 : List Int) : ∃ r, impl_PowerSum.f l0 l1 = some r := by
  unfold impl_PowerSum.f
  rw [impl_areNumbers_f, Option.bind_some]
  split
  · split <;> exact ⟨_, rfl⟩
  · exact ⟨_, rfl⟩
theorem FnExactPowerSum : laws_FnExactPowerSum.Pure := by
  intro l0 l1 _ _ _ _ _ _
  by_cases h0 : (l0.length : Int) > 1048576
  · exact ⟨0, by unfold laws_FnExactPowerSum.f; rw [if_pos h0]⟩
  by_cases h1 : (l1.length : Int) > 1048576
  · exact ⟨0, by unfold laws_FnExactPowerSum.f; rw [if_neg h0, if_pos h1]⟩
  obtain ⟨r, hr⟩ := impl_PowerSum_some l0 l1
  obtain ⟨K, hK⟩ := spec_PowerSum_f l0 l1 (by omega) (by omega) r hr
  obtain ⟨k, hk0, hk1⟩ : ∃ k : Nat, K ≤ k ∧ 2000000 ≤ k := ⟨max K 2000000, Nat.le_max_left _ _, Nat.le_max_right _ _⟩
  have hS := hK (k + 1) (by omega)
  dsimp only at hS
  have T0 := toInt64S_f (k + 1) l0 (by omega) (by omega)
  have T1 := toInt64S_f (k + 1) l1 (by omega) (by omega)
  have T2 := toInt64S_f k l0 (by omega) (by omega)
  have T3 := toInt64S_f k l1 (by omega) (by omega)
  have E0 := eqInt64S_f k l0 (by omega) (by omega)
  have E1 := eqInt64S_f k l1 (by omega) (by omega)
  refine ⟨k + 1, ?_⟩
  unfold laws_FnExactPowerSum.f
  simp only [h0, h1, T0, T1, T2, T3, hS, hr, E0, E1, Option.bind_some, if_true, if_false, bne_self_eq_false, laws_FnExactPowerSum.j0, Bool.false_eq_true]

end Go.Proofs.Ytbpipmkgclkhgaa.Pure
