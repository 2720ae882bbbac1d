/- For every d and all words the program's CommutatorWord returns what the reference's returns, in memory of its own, and leaves the lists as they were. -/
import Derived.Test.YtmgkalljgglabaaPx7
import Derived.Test.YtmgkalljgglabaaPx5
import Derived.Test.YtmgkalljgglabaaPx6
import Derived.Test.YtmgkalljgglabaaBaseJoin
namespace Go.Proofs.Ytmgkalljgglabaa.Pure
open Go.RowKit Go.Proofs.Ytmgkalljgglabaa.P Go.Proofs.YtmgkalljgglabaaW.PrintWords Go.Proofs.YtmgkalljgglabaaW.PrintLast
set_option linter.unusedVariables false
set_option linter.unusedSimpArgs false

theorem spec_CommutatorWord_f (k : Nat) (d : Int) (v w : List Int) (hk : 3000 ≤ k) : spec_CommutatorWord.f k d v w = some (comRes d v w) := by
  unfold spec_CommutatorWord.f comRes
  rw [spec_l09Is_f k d _ (by omega), Option.bind_some]
  by_cases h1 : isGroup d v = true
  · rw [if_pos h1, if_pos h1, spec_l09Is_f k d _ (by omega), Option.bind_some]
    by_cases h2 : isGroup d w = true
    · have g1 := isGroup_length h1
      have g2 := isGroup_length h2
      rw [if_pos h2, if_pos h2, spec_l09Inverse_f k v (by omega) (by omega), Option.bind_some, spec_l09Inverse_f k w (by omega) (by omega), Option.bind_some, spec_l09Told_f k _ (by simp) (four_length h1 h2) hk]
    · rw [if_neg h2, if_neg h2]
  · rw [if_neg h1, if_neg h1]
theorem impl_CommutatorWord_f (k : Nat) (d : Int) (v w : List Int) (hk : 3000 ≤ k) : impl_CommutatorWord.f k d v w = some (comRes d v w) := by
  unfold impl_CommutatorWord.f comRes
  rw [impl_IsGroupWord_f, Option.bind_some]
  by_cases h1 : isGroup d v = true
  · rw [if_pos h1, if_pos h1, impl_IsGroupWord_f, Option.bind_some]
    by_cases h2 : isGroup d w = true
    · have g1 := isGroup_length h1
      have g2 := isGroup_length h2
      rw [if_pos h2, if_pos h2, impl_inverseWord_f k v (by omega) (by omega), Option.bind_some, impl_inverseWord_f k w (by omega) (by omega), Option.bind_some, impl_joinedWord_f k _ (four_length h1 h2) hk]
    · rw [if_neg h2, if_neg h2]
  · rw [if_neg h1, if_neg h1]
theorem FnExactCommutatorWord : laws_FnExactCommutatorWord.Pure := by
  intro d v w hd _ _ hw _ _ hw2
  obtain ⟨K, hK⟩ : ∃ K : Nat, 3000000 ≤ K := ⟨_, Nat.le_refl _⟩
  refine ⟨K + 3, ?_⟩
  unfold laws_FnExactCommutatorWord.f
  by_cases hl : (v.length : Int) > 1048576
  · rw [if_pos hl]
  rw [if_neg hl]
  by_cases hm : (w.length : Int) > 1048576
  · rw [if_pos hm]
  rw [if_neg hm]
  have hl' : v.length ≤ 1048576 := by omega
  have hm' : w.length ≤ 1048576 := by omega
  have hr := comRes_length d v w
  have Tv0 := toInt64S_f K v hl' (by omega)
  have Tv1 := toInt64S_f (K + 1) v hl' (by omega)
  have Tv2 := toInt64S_f (K + 2) v hl' (by omega)
  have Tv3 := toInt64S_f (K + 3) v hl' (by omega)
  have Lv2 := eqInt64S_f (K + 2) v (by omega) (by omega)
  have Tw0 := toInt64S_f K w hm' (by omega)
  have Tw1 := toInt64S_f (K + 1) w hm' (by omega)
  have Tw2 := toInt64S_f (K + 2) w hm' (by omega)
  have Tw3 := toInt64S_f (K + 3) w hm' (by omega)
  have Lw2 := eqInt64S_f (K + 2) w (by omega) (by omega)
  have S3 := spec_CommutatorWord_f (K + 3) d v w (by omega)
  have I3 := impl_CommutatorWord_f (K + 3) d v w (by omega)
  have I2 := impl_CommutatorWord_f (K + 2) d v w (by omega)
  have I1 := impl_CommutatorWord_f (K + 1) d v w (by omega)
  have E3 := eqInt64S_f (K + 3) (comRes d v w).1 (by omega) (by omega)
  have E2 := eqInt64S_f (K + 2) (comRes d v w).1 (by omega) (by omega)
  have E1 := eqInt64S_f (K + 1) (comRes d v w).1 (by omega) (by omega)
  have M2 := markInt64S_f (K + 2) v 1 (by omega) (by omega) (by omega) (by omega)
  have M2w := markInt64S_f (K + 2) w (1 + v.length) (by omega) (by omega) (by omega) (by omega)
  have N1 := markInt64S_f (K + 1) (comRes d v w).1 1 (by omega) (by omega) (by omega) (by omega)
  have N2 := markInt64S_f (K + 2) (comRes d v w).1 1 (by omega) (by omega) (by omega) (by omega)
  have H2 := heldInt64S_f (K + 2) 1 (comRes d v w).1.length (by omega) (by omega) (by omega) (by omega)
  have H1 := heldInt64S_f (K + 1) 1 (comRes d v w).1.length (by omega) (by omega) (by omega) (by omega)
  have H0 := heldInt64S_f K 1 (comRes d v w).1.length (by omega) (by omega) (by omega) (by omega)
  have q1 : (1 + (v.length : Int) + (w.length : Int) < 0) = False := eq_false (by omega)
  have q2 : (1 + ((comRes d v w).1.length : Int) < 0) = False := eq_false (by omega)
  clear hK hl hm
  generalize hR : comRes d v w = R at *
  obtain ⟨r, c⟩ := R
  dsimp only at *
  simp only [Tv3, Tv2, Tv1, Tv0, Tw3, Tw2, Tw1, Tw0, S3, I3, I2, I1, E3, E2, E1, Lv2, Lw2, M2, M2w, N1, N2, H2, H1, H0, q1, q2, Option.bind_some, if_true, if_false, Bool.false_eq_true, bne_self_eq_false, laws_FnExactCommutatorWord.j0, laws_FnExactCommutatorWord.j1, laws_FnExactCommutatorWord.j2]

end Go.Proofs.Ytmgkalljgglabaa.Pure
