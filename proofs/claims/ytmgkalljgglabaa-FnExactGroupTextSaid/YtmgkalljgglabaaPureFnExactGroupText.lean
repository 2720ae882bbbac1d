/- For every d and every list the program's GroupText returns what the reference's returns, and leaves the list as it was. -/
import Derived.Test.YtmgkalljgglabaaPx3
import Derived.Test.YtmgkalljgglabaaBaseText
namespace Go.Proofs.Ytmgkalljgglabaa.Pure
open Go.RowKit Go.Proofs.Ytmgkalljgglabaa.P Go.Proofs.YtmgkalljgglabaaW.PrintWords Go.Proofs.YtmgkalljgglabaaW.PrintLast
set_option linter.unusedVariables false
set_option linter.unusedSimpArgs false

theorem FnExactGroupText : laws_FnExactGroupText.Pure := by
  intro d l hd _ _ _
  obtain ⟨K, hK⟩ : ∃ K : Nat, 3000000 ≤ K := ⟨_, Nat.le_refl _⟩
  refine ⟨K + 1, ?_⟩
  unfold laws_FnExactGroupText.f
  by_cases hl : (l.length : Int) > 1048576
  · rw [if_pos hl]
  · rw [if_neg hl]
    have A1 := toInt64S_f (K + 1) l (by omega) (by omega)
    have A0 := toInt64S_f K l (by omega) (by omega)
    have E := eqInt64S_f K l (by omega) (by omega)
    have S := spec_GroupText_f (K + 1) d l (by omega)
    have I := impl_GroupText_f (K + 1) d l (by omega)
    simp only [A1, A0, E, S, I, Option.bind_some, bne_self_eq_false, Bool.false_eq_true, if_false, if_true, laws_FnExactGroupText.j0]

end Go.Proofs.Ytmgkalljgglabaa.Pure
