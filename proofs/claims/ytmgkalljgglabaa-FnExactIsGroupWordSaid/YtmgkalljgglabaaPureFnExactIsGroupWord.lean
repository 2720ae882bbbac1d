/- For every d and every list the program's IsGroupWord answers as the reference's does, and leaves the list as it was. -/
import Derived.Test.YtmgkalljgglabaaPx2
import Derived.Test.YtmgkalljgglabaaBaseGroup
namespace Go.Proofs.Ytmgkalljgglabaa.Pure
open Go.RowKit Go.Proofs.Ytmgkalljgglabaa.P Go.Proofs.YtmgkalljgglabaaW.PrintWords Go.Proofs.YtmgkalljgglabaaW.PrintLast
set_option linter.unusedVariables false
set_option linter.unusedSimpArgs false

theorem FnExactIsGroupWord : laws_FnExactIsGroupWord.Pure := by
  intro d l hd _ _ hw
  obtain ⟨K, hK⟩ : ∃ K : Nat, 2000000 ≤ K := ⟨_, Nat.le_refl _⟩
  refine ⟨K, ?_⟩
  unfold laws_FnExactIsGroupWord.f
  by_cases hl : (l.length : Int) > 1048576
  · rw [if_pos hl]
  · rw [if_neg hl]
    have T := toInt64S_f K l (by omega) (by omega)
    have E := eqInt64S_f K l (by omega) (by omega)
    have S := spec_IsGroupWord_f K d l (by omega) (by omega)
    have I := impl_IsGroupWord_f d l
    simp only [T, Option.bind_some, S, I, bne_self_eq_false, E, if_true]
    rfl

end Go.Proofs.Ytmgkalljgglabaa.Pure
