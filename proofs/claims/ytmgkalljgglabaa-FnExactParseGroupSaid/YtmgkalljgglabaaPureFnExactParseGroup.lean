/- For every d and every text the program's ParseGroup returns what the reference's returns, in memory of its own. -/
import Derived.Test.YtmgkalljgglabaaPx8
import Derived.Test.YtmgkalljgglabaaBaseParse
namespace Go.Proofs.Ytmgkalljgglabaa.Pure
open Go.RowKit Go.Proofs.Ytmgkalljgglabaa.P Go.Proofs.YtmgkalljgglabaaW.PrintWords Go.Proofs.YtmgkalljgglabaaW.PrintLast
set_option linter.unusedVariables false
set_option linter.unusedSimpArgs false

theorem FnExactParseGroup : laws_FnExactParseGroup.Pure := by
  intro d s hd _
  obtain ⟨K, hK⟩ : ∃ K : Nat, 3000000 ≤ K := ⟨_, Nat.le_refl _⟩
  refine ⟨K + 2, ?_⟩
  unfold laws_FnExactParseGroup.f
  by_cases hl : (s.size : Int) > 1048576
  · rw [if_pos hl]
  · rw [if_neg hl]
    have hr := parseRes_length d s
    have S2 := spec_ParseGroup_f (K + 2) d s (by omega) (by omega)
    have I2 := impl_ParseGroup_f (K + 2) d s (by omega) (by omega)
    have I1 := impl_ParseGroup_f (K + 1) d s (by omega) (by omega)
    have E2 := eqInt64S_f (K + 2) (parseRes d s).1 (by omega) (by omega)
    have E1 := eqInt64S_f (K + 1) (parseRes d s).1 (by omega) (by omega)
    have N1 := markInt64S_f (K + 1) (parseRes d s).1 1 (by omega) (by omega) (by omega) (by omega)
    have H1 := heldInt64S_f (K + 1) 1 (parseRes d s).1.length (by omega) (by omega) (by omega) (by omega)
    have H0 := heldInt64S_f K 1 (parseRes d s).1.length (by omega) (by omega) (by omega) (by omega)
    have q2 : (1 + ((parseRes d s).1.length : Int) < 0) = False := eq_false (by omega)
    clear hK hl
    generalize hR : parseRes d s = R at *
    obtain ⟨r, c⟩ := R
    dsimp only at *
    simp only [S2, I2, I1, E2, E1, N1, H1, H0, q2, Option.bind_some, if_true, if_false, Bool.false_eq_true, bne_self_eq_false, laws_FnExactParseGroup.j0, laws_FnExactParseGroup.j1]

end Go.Proofs.Ytmgkalljgglabaa.Pure
