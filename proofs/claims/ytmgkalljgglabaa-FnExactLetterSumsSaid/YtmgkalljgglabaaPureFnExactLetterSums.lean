/- For every d and every list the program's LetterSums returns what the reference's returns, in memory of its own, and leaves the list as it was. -/
import Derived.Test.YtmgkalljgglabaaPx14
import Derived.Test.YtmgkalljgglabaaBaseLetters
namespace Go.Proofs.Ytmgkalljgglabaa.Pure
open Go.RowKit Go.Proofs.Ytmgkalljgglabaa.P Go.Proofs.YtmgkalljgglabaaW.PrintWords Go.Proofs.YtmgkalljgglabaaW.PrintLast
set_option linter.unusedVariables false
set_option linter.unusedSimpArgs false

theorem FnExactLetterSums : laws_FnExactLetterSums.Pure := by
  intro d l hd _ _ hw
  obtain ⟨K, hK⟩ : ∃ K : Nat, 3000000 ≤ K := ⟨_, Nat.le_refl _⟩
  refine ⟨K + 3, ?_⟩
  unfold laws_FnExactLetterSums.f
  by_cases hl : (l.length : Int) > 1048576
  · rw [if_pos hl]
  · rw [if_neg hl]
    have hl' : l.length ≤ 1048576 := by omega
    have hr : (lettersRes d l).1.length ≤ 1048577 := by have := lettersRes_length d l; omega
    have T3 := toInt64S_f (K + 3) l hl' (by omega)
    have T2 := toInt64S_f (K + 2) l hl' (by omega)
    have T1 := toInt64S_f (K + 1) l hl' (by omega)
    have T0 := toInt64S_f K l hl' (by omega)
    have S3 := spec_LetterSums_f (K + 3) d l (by omega) (by omega)
    have I3 := impl_LetterSums_f (K + 3) d l (by omega) (by omega)
    have I2 := impl_LetterSums_f (K + 2) d l (by omega) (by omega)
    have I1 := impl_LetterSums_f (K + 1) d l (by omega) (by omega)
    have E3 := eqInt64S_f (K + 3) (lettersRes d l).1 (by omega) (by omega)
    have E2 := eqInt64S_f (K + 2) (lettersRes d l).1 (by omega) (by omega)
    have E1 := eqInt64S_f (K + 1) (lettersRes d l).1 (by omega) (by omega)
    have L3 := eqInt64S_f (K + 3) l (by omega) (by omega)
    have L2 := eqInt64S_f (K + 2) l (by omega) (by omega)
    have M2 := markInt64S_f (K + 2) l 1 (by omega) (by omega) (by omega) (by omega)
    have N1 := markInt64S_f (K + 1) (lettersRes d l).1 1 (by omega) (by omega) (by omega) (by omega)
    have N2 := markInt64S_f (K + 2) (lettersRes d l).1 1 (by omega) (by omega) (by omega) (by omega)
    have H2 := heldInt64S_f (K + 2) 1 (lettersRes d l).1.length (by omega) (by omega) (by omega) (by omega)
    have H1 := heldInt64S_f (K + 1) 1 (lettersRes d l).1.length (by omega) (by omega) (by omega) (by omega)
    have H0 := heldInt64S_f K 1 (lettersRes d l).1.length (by omega) (by omega) (by omega) (by omega)
    have q1 : (1 + (l.length : Int) < 0) = False := eq_false (by omega)
    have q2 : (1 + ((lettersRes d l).1.length : Int) < 0) = False := eq_false (by omega)
    clear hK hl
    generalize hR : lettersRes d l = R at *
    obtain ⟨r, c⟩ := R
    dsimp only at *
    simp only [T3, T2, T1, T0, S3, I3, I2, I1, E3, E2, E1, L3, L2, M2, N1, N2, H2, H1, H0, q1, q2, Option.bind_some, if_true, if_false, Bool.false_eq_true, bne_self_eq_false, laws_FnExactLetterSums.j0, laws_FnExactLetterSums.j1, laws_FnExactLetterSums.j2]

end Go.Proofs.Ytmgkalljgglabaa.Pure
