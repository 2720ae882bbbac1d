/- Plain lemmas: is a fraction one, as both programs ask it? -/
import Derived.Test.YtcklefgkbddlhaaPx5
import Derived.Test.YtcklefgkbddlhaaPx10
import Derived.Test.YtcklefgkbddlhaaBaseCopies0
namespace Go.Proofs.Ytcklefgkbddlhaa.Pure
open Go.RowKit Go.Proofs.Ytcklefgkbddlhaa.P Go.Proofs.YtcklefgkbddlhaaW.PrintWords Go.Proofs.YtcklefgkbddlhaaW.PrintLast
set_option linter.unusedVariables false
set_option linter.unusedSimpArgs false

theorem spec_in_f (n lo hi : Int) : spec_l01In.f n lo hi = some (decide (lo ≤ n) && decide (n ≤ hi)) := by
  unfold spec_l01In.f
  by_cases h : n ≥ lo
  · rw [if_pos h]; simp [show lo ≤ n from h]
  · rw [if_neg h]; simp [show ¬ lo ≤ n from h]
theorem impl_within_f (n lo hi : Int) : impl_within.f n lo hi = some (decide (lo ≤ n) && decide (n ≤ hi)) := by
  unfold impl_within.f
  by_cases h : n ≥ lo
  · rw [if_pos h]; simp [show lo ≤ n from h]
  · rw [if_neg h]; simp [show ¬ lo ≤ n from h]
theorem impl_upTo_f (n m : Int) (h0 : -1000000000000000000 ≤ m) (h1 : m ≤ 1000000000000000000) : impl_upTo.f n m = some (decide (-m ≤ n) && decide (n ≤ m)) := by
  unfold impl_upTo.f
  rw [impl_within_f, Option.bind_some, wrap_of _ (by omega) (by omega)]
/-- A fraction that is one. -/
def fitF (a b : Int) : Bool := (decide (1 ≤ b) && decide (b ≤ 1000000000)) && ((decide (-1000000000 ≤ a) && decide (a ≤ 1000000000)) && decide (Int.gcd a b = 1))
theorem gcd_step (x y : Int) (h : y ≠ 0) : Int.gcd y (Int.tmod x y) = Int.gcd x y := by
  unfold Int.gcd
  rw [Int.natAbs_tmod, Nat.gcd_comm x.natAbs y.natAbs, Nat.gcd_comm y.natAbs (x.natAbs % y.natAbs), ← Nat.gcd_rec]
theorem tmod_lt (x y : Int) (h : y ≠ 0) : (Int.tmod x y).natAbs < y.natAbs := by
  rw [Int.natAbs_tmod]
  exact Nat.mod_lt _ (by omega)
theorem spec_gcd_f : ∀ (m : Nat) (x y : Int), y.natAbs ≤ m → x.natAbs ≤ 9000000000000000000 → y.natAbs ≤ 9000000000000000000 → Ev (fun k => spec_l01Gcd.f k x y) (Int.gcd x y : Int) := by
  intro m
  induction m with
  | zero =>
    intro x y hy h1 h2
    obtain rfl : y = 0 := by omega
    refine Ev.step (f := fun _ => some ((Int.gcd x 0 : Nat) : Int)) (fun k => ?_) (Ev.now _)
    simp only [spec_l01Gcd.f, spec_l01Gcd.l0]
    rw [if_pos trivial, wrap_of _ (by omega) (by omega), Int.gcd_zero_right]
    congr 1
    unfold mx
    split <;> omega
  | succ m ih =>
    intro x y hy h1 h2
    by_cases h0 : y = 0
    · exact ih x y (by omega) h1 h2
    · have h := ih y (Int.tmod x y) (by have := tmod_lt x y h0; omega) h2 (by have := tmod_lt x y h0; omega)
      rw [gcd_step x y h0] at h
      refine Ev.step (fun k => ?_) h
      simp only [spec_l01Gcd.f, spec_l01Gcd.l0]
      rw [if_neg h0]
theorem impl_common_l0 : ∀ (m : Nat) (x y : Int), y.natAbs ≤ m → 0 ≤ x → 0 ≤ y → Ev (fun k => impl_common.l0 k x y) (Int.gcd x y : Int) := by
  intro m
  induction m with
  | zero =>
    intro x y hy h1 h2
    obtain rfl : y = 0 := by omega
    refine Ev.step (f := fun _ => some ((Int.gcd x 0 : Nat) : Int)) (fun k => ?_) (Ev.now _)
    simp only [impl_common.l0]
    rw [if_pos trivial, Int.gcd_zero_right]
    congr 1
    omega
  | succ m ih =>
    intro x y hy h1 h2
    by_cases h0 : y = 0
    · exact ih x y (by omega) h1 h2
    · have h := ih y (Int.tmod x y) (by have := tmod_lt x y h0; omega) h2 (Int.tmod_nonneg y h1)
      rw [gcd_step x y h0] at h
      refine Ev.step (fun k => ?_) h
      simp only [impl_common.l0]
      rw [if_neg h0]
theorem size_natAbs (x : Int) (h : x.natAbs ≤ 9000000000000000000) : impl_size.f x = some (x.natAbs : Int) := by
  unfold impl_size.f
  rw [wrap_of _ (by omega) (by omega)]
  congr 1
  unfold mx
  split <;> omega
theorem impl_common_f (x y : Int) (h1 : x.natAbs ≤ 9000000000000000000) (h2 : y.natAbs ≤ 9000000000000000000) : Ev (fun k => impl_common.f k x y) (Int.gcd x y : Int) := by
  have h := impl_common_l0 y.natAbs (x.natAbs : Int) (y.natAbs : Int) (by omega) (by omega) (by omega)
  refine Ev.congr (fun k => ?_) (show Ev (fun k => impl_common.l0 k (x.natAbs : Int) (y.natAbs : Int)) (Int.gcd x y : Int) from by
    have e : Int.gcd (x.natAbs : Int) (y.natAbs : Int) = Int.gcd x y := by simp [Int.gcd]
    rw [e] at h
    exact h)
  unfold impl_common.f
  rw [size_natAbs x h1, size_natAbs y h2]
  rfl
theorem gcd_one (a b : Int) : (((Int.gcd a b : Nat) : Int) == 1) = decide (Int.gcd a b = 1) := by
  rw [Bool.eq_iff_iff, beq_iff_eq, decide_eq_true_eq]
  omega
theorem spec_isFrac_f (a b : Int) : Ev (fun k => spec_l01IsFrac.f k a b) (fitF a b) := by
  unfold spec_l01IsFrac.f fitF
  simp only [spec_in_f, Option.bind_some]
  by_cases hb : (decide (1 ≤ b) && decide (b ≤ 1000000000)) = true
  · rw [hb]
    by_cases ha : (decide (-1000000000 ≤ a) && decide (a ≤ 1000000000)) = true
    · rw [ha]
      simp only [if_true, Bool.true_and]
      simp only [Bool.and_eq_true, decide_eq_true_eq] at ha hb
      have h := Ev.bind (f := fun _ t => some (t == (1 : Int))) (spec_gcd_f b.natAbs a b (Nat.le_refl _) (by omega) (by omega)) (Ev.now _)
      rw [gcd_one] at h
      exact h
    · rw [Bool.eq_false_iff.mpr ha]
      exact Ev.now _
  · rw [Bool.eq_false_iff.mpr hb]
    exact Ev.now _
theorem impl_isFraction_f (a b : Int) : Ev (fun k => impl_IsFraction.f k a b) (fitF a b) := by
  unfold impl_IsFraction.f fitF
  simp only [impl_within_f, impl_upTo_f a 1000000000 (by decide) (by decide), Option.bind_some]
  by_cases hb : (decide (1 ≤ b) && decide (b ≤ 1000000000)) = true
  · rw [hb]
    by_cases ha : (decide (-1000000000 ≤ a) && decide (a ≤ 1000000000)) = true
    · rw [ha]
      simp only [if_true, Bool.true_and]
      simp only [Bool.and_eq_true, decide_eq_true_eq] at ha hb
      have h := Ev.bind (f := fun _ t => some (t == (1 : Int))) (impl_common_f a b (by omega) (by omega)) (Ev.now _)
      rw [gcd_one] at h
      exact h
    · rw [Bool.eq_false_iff.mpr ha]
      exact Ev.now _
  · rw [Bool.eq_false_iff.mpr hb]
    exact Ev.now _
end Go.Proofs.Ytcklefgkbddlhaa.Pure
