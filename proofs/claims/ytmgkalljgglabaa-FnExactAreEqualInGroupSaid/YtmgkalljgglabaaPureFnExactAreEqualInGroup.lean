/- For every d and all two lists the program's AreEqualInGroup answers as the reference's does, and leaves the lists as they were. -/
import Derived.Test.YtmgkalljgglabaaPx5
import Derived.Test.YtmgkalljgglabaaBaseEqual
namespace Go.Proofs.Ytmgkalljgglabaa.Pure
open Go.RowKit Go.Proofs.Ytmgkalljgglabaa.P Go.Proofs.YtmgkalljgglabaaW.PrintWords Go.Proofs.YtmgkalljgglabaaW.PrintLast
set_option linter.unusedVariables false
set_option linter.unusedSimpArgs false

theorem FnExactAreEqualInGroup : laws_FnExactAreEqualInGroup.Pure := by
  intro d a b hd _ _ _ _ _ _
  obtain ⟨K, hK⟩ : ∃ K : Nat, 3000000 ≤ K := ⟨_, Nat.le_refl _⟩
  refine ⟨K + 1, ?_⟩
  unfold laws_FnExactAreEqualInGroup.f
  by_cases hl : (a.length : Int) > 1048576
  · rw [if_pos hl]
  · rw [if_neg hl]
    by_cases hm : (b.length : Int) > 1048576
    · rw [if_pos hm]
    · rw [if_neg hm]
      have A1 := toInt64S_f (K + 1) a (by omega) (by omega)
      have A0 := toInt64S_f K a (by omega) (by omega)
      have B1 := toInt64S_f (K + 1) b (by omega) (by omega)
      have B0 := toInt64S_f K b (by omega) (by omega)
      have EA := eqInt64S_f K a (by omega) (by omega)
      have EB := eqInt64S_f K b (by omega) (by omega)
      have S := spec_AreEqualInGroup_f (K + 1) d a b (by omega)
      have I := impl_AreEqualInGroup_f (K + 1) d a b (by omega)
      simp only [A1, A0, B1, B0, EA, EB, S, I, Option.bind_some, bne_self_eq_false, Bool.false_eq_true, if_false, if_true, laws_FnExactAreEqualInGroup.j0]

end Go.Proofs.Ytmgkalljgglabaa.Pure
