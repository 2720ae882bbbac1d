/- Plain lemmas: numbers of letters and levels, as both programs judge them. -/
import Derived.Test.YtcklefgkbddlhaaPx10
import Derived.Test.YtcklefgkbddlhaaPx5
import Derived.Test.YtcklefgkbddlhaaBaseFracM
namespace Go.Proofs.Ytcklefgkbddlhaa.Pure
open Go.RowKit Go.Proofs.Ytcklefgkbddlhaa.P Go.Proofs.YtcklefgkbddlhaaW.PrintWords Go.Proofs.YtcklefgkbddlhaaW.PrintLast
set_option linter.unusedVariables false
set_option linter.unusedSimpArgs false

/-- A number of letters, and a level for them. -/
def lvlOk (d n : Int) : Bool := (decide (1 ≤ d) && decide (d ≤ 3)) && ((decide (1 ≤ n) && decide (n ≤ 5)) && (decide (d < 3) || decide (n < 5)))
theorem lvlOk_bounds {d n : Int} (h : lvlOk d n = true) : 1 ≤ d ∧ d ≤ 3 ∧ 1 ≤ n ∧ n ≤ 5 := by
  unfold lvlOk at h
  simp only [Bool.and_eq_true, decide_eq_true_eq] at h
  omega
theorem impl_areLetters_f (d : Int) : impl_areLetters.f d = some (decide (1 ≤ d) && decide (d ≤ 3)) := by
  unfold impl_areLetters.f
  rw [impl_within_f, Option.bind_some]
theorem impl_isLevel_f (d n : Int) : impl_isLevel.f d n = some (lvlOk d n) := by
  unfold impl_isLevel.f lvlOk
  rw [impl_areLetters_f, impl_within_f]
  simp only [Option.bind_some]
  cases decide (1 ≤ d) && decide (d ≤ 3) with
  | false => rfl
  | true =>
    cases decide (1 ≤ n) && decide (n ≤ 5) with
    | false => rfl
    | true =>
      by_cases h : d < 3
      · simp [h]
      · simp [h]
theorem spec_sizes_f (d n : Int) : spec_l01Sizes.f d n = some (lvlOk d n) := by
  unfold spec_l01Sizes.f lvlOk
  rw [spec_in_f, spec_in_f]
  simp only [Option.bind_some]
  cases decide (1 ≤ d) && decide (d ≤ 3) with
  | false => rfl
  | true =>
    cases decide (1 ≤ n) && decide (n ≤ 5) with
    | false => rfl
    | true =>
      by_cases h : d < 3
      · simp [h]
      · simp [h]; omega
end Go.Proofs.Ytcklefgkbddlhaa.Pure
