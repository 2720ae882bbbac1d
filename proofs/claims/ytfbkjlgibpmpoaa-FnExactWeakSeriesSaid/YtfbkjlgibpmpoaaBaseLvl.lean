/- Plain lemmas: levels, and whole numbers that fit. -/
import Derived.Test.YtfbkjlgibpmpoaaPx1
import Derived.Test.YtfbkjlgibpmpoaaPx8
import Derived.Test.YtfbkjlgibpmpoaaPx6
import Derived.Test.YtfbkjlgibpmpoaaBaseCopies
namespace Go.Proofs.Ytfbkjlgibpmpoaa.Pure
open Go.RowKit Go.Proofs.Ytfbkjlgibpmpoaa.P Go.Proofs.YtfbkjlgibpmpoaaW.PrintWords Go.Proofs.YtfbkjlgibpmpoaaW.PrintLast
set_option linter.unusedVariables false
set_option linter.unusedSimpArgs false

theorem spec_in_f (n lo hi : Int) : spec_l01In.f n lo hi = some (decide (lo ≤ n) && decide (n ≤ hi)) := by
  unfold spec_l01In.f
  by_cases h : n ≥ lo
  · rw [if_pos h]; simp [show lo ≤ n from h]
  · rw [if_neg h]; simp [show ¬ lo ≤ n from h]
theorem impl_within_f (n lo hi : Int) : impl_within.f n lo hi = some (decide (lo ≤ n) && decide (n ≤ hi)) := by
  unfold impl_within.f
  by_cases h : n ≥ lo
  · rw [if_pos h]; simp [show lo ≤ n from h]
  · rw [if_neg h]; simp [show ¬ lo ≤ n from h]
theorem impl_upTo_f (n m : Int) (h0 : -1000000000000000000 ≤ m) (h1 : m ≤ 1000000000000000000) : impl_upTo.f n m = some (decide (-m ≤ n) && decide (n ≤ m)) := by
  unfold impl_upTo.f
  rw [impl_within_f, Option.bind_some, wrap_of _ (by omega) (by omega)]
/-- A number of letters, and a level for them. -/
def lvlOk (d n : Int) : Bool := (decide (1 ≤ d) && decide (d ≤ 3)) && ((decide (1 ≤ n) && decide (n ≤ 5)) && (decide (d < 3) || decide (n < 5)))
theorem lvlOk_bounds {d n : Int} (h : lvlOk d n = true) : 1 ≤ d ∧ d ≤ 3 ∧ 1 ≤ n ∧ n ≤ 5 := by
  unfold lvlOk at h
  simp only [Bool.and_eq_true, decide_eq_true_eq] at h
  omega
theorem impl_areLetters_f (d : Int) : impl_areLetters.f d = some (decide (1 ≤ d) && decide (d ≤ 3)) := by
  unfold impl_areLetters.f
  rw [impl_within_f, Option.bind_some]
theorem impl_isLevel_f (d n : Int) : impl_isLevel.f d n = some (lvlOk d n) := by
  unfold impl_isLevel.f lvlOk
  rw [impl_areLetters_f, impl_within_f]
  simp only [Option.bind_some]
  cases decide (1 ≤ d) && decide (d ≤ 3) with
  | false => rfl
  | true =>
    cases decide (1 ≤ n) && decide (n ≤ 5) with
    | false => rfl
    | true =>
      by_cases h : d < 3
      · simp [h]
      · simp [h]
theorem spec_level_f (d n : Int) : spec_l02Level.f d n = some (lvlOk d n) := by
  unfold spec_l02Level.f lvlOk
  rw [spec_in_f, spec_in_f]
  simp only [Option.bind_some]
  cases decide (1 ≤ d) && decide (d ≤ 3) with
  | false => rfl
  | true =>
    cases decide (1 ≤ n) && decide (n ≤ 5) with
    | false => rfl
    | true =>
      by_cases h : d < 3
      · simp [h]
      · simp [h]
theorem size_natAbs (x : Int) (h : x.natAbs ≤ 9000000000000000000) : impl_size.f x = some (x.natAbs : Int) := by
  unfold impl_size.f
  rw [wrap_of _ (by omega) (by omega)]
  congr 1
  unfold mx
  split <;> omega
/-- A whole number that fits. -/
def inR (a : Int) : Bool := decide (-1000000000 ≤ a) && decide (a ≤ 1000000000)
theorem fit1 (k : Nat) (a : Int) (hk : 100 ≤ k) : impl_IsFraction.f k a 1 = some (inR a) := by
  obtain ⟨K, rfl⟩ : ∃ K, k = K + 2 := ⟨k - 2, by omega⟩
  unfold impl_IsFraction.f
  rw [impl_within_f, Option.bind_some, if_pos (by simp), impl_upTo_f _ _ (by omega) (by omega), Option.bind_some]
  show (if inR a = true then _ else _) = _
  by_cases h : inR a = true
  · rw [if_pos h]
    unfold inR at h
    simp only [Bool.and_eq_true, decide_eq_true_eq] at h
    have e : impl_common.f (K + 2) a 1 = some 1 := by
      unfold impl_common.f
      rw [size_natAbs a (by omega), Option.bind_some, size_natAbs 1 (by simp), Option.bind_some]
      simp only [impl_common.l0]
      simp
    rw [e]
    simp [inR, h]
  · rw [if_neg h]
    rw [Bool.not_eq_true] at h
    rw [h]
end Go.Proofs.Ytfbkjlgibpmpoaa.Pure
