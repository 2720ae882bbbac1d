/- Plain lemmas: products and sums of fractions in lowest terms, and multiples by whole numbers. -/
import Derived.Test.YtcklefgkbddlhaaBaseRedP
namespace Go.Proofs.Ytcklefgkbddlhaa.Pure
open Go.RowKit Go.Proofs.Ytcklefgkbddlhaa.P Go.Proofs.YtcklefgkbddlhaaW.PrintWords Go.Proofs.YtcklefgkbddlhaaW.PrintLast
set_option linter.unusedVariables false
set_option linter.unusedSimpArgs false

def okF2 (x : S27) : Prop := fitF x.f0 x.f1 = true
def timesF (x y : S27) : S27 := ⟨(redF (x.f0 * y.f0) (x.f1 * y.f1)).1, (redF (x.f0 * y.f0) (x.f1 * y.f1)).2⟩
def plusF (x y : S27) : S27 := ⟨(redF (x.f0 * y.f1 + y.f0 * x.f1) (x.f1 * y.f1)).1, (redF (x.f0 * y.f1 + y.f0 * x.f1) (x.f1 * y.f1)).2⟩
theorem mul_b {a b : Int} (h1 : -1000000000 ≤ a) (h2 : a ≤ 1000000000) (h3 : -1000000000 ≤ b) (h4 : b ≤ 1000000000) : (a * b).natAbs ≤ 1000000000000000000 := by
  rw [Int.natAbs_mul]
  exact Nat.le_trans (Nat.mul_le_mul (show a.natAbs ≤ 1000000000 by omega) (show b.natAbs ≤ 1000000000 by omega)) (by decide)
theorem num_t (x y : S27) (hx : okF2 x) (hy : okF2 y) : (x.f0 * y.f0).natAbs ≤ 1000000000000000000 ∧ 1 ≤ x.f1 * y.f1 ∧ (x.f1 * y.f1).natAbs ≤ 1000000000000000000 ∧ (x.f0 * y.f1).natAbs ≤ 1000000000000000000 ∧ (y.f0 * x.f1).natAbs ≤ 1000000000000000000 := by
  have h1 := fitF_bounds hx
  have h2 := fitF_bounds hy
  refine ⟨mul_b (by omega) (by omega) (by omega) (by omega), ?_, mul_b (by omega) (by omega) (by omega) (by omega), mul_b (by omega) (by omega) (by omega) (by omega), mul_b (by omega) (by omega) (by omega) (by omega)⟩
  have := Int.mul_le_mul h1.1 h2.1 (by omega) (by omega)
  omega
theorem spec_plus_f (x y : S27) (hx : okF2 x) (hy : okF2 y) : Ev (fun k => spec_l01Plus.f k x.f0 x.f1 y.f0 y.f1) (if fitF (plusF x y).f0 (plusF x y).f1 = true then ((plusF x y).f0, (plusF x y).f1, true) else (0, 0, false)) := by
  obtain ⟨_, h2, h3, h4, h5⟩ := num_t x y hx hy
  unfold spec_l01Plus.f
  rw [wrap_of (x.f0 * y.f1) (by omega) (by omega), wrap_of (y.f0 * x.f1) (by omega) (by omega), wrap_of (x.f0 * y.f1 + y.f0 * x.f1) (by omega) (by omega), wrap_of (x.f1 * y.f1) (by omega) (by omega)]
  refine Ev.bind (f := fun _ bt => some (bt.1, bt.2.1, bt.2.2)) (spec_frac_f (x.f0 * y.f1 + y.f0 * x.f1) (x.f1 * y.f1) (by omega) h2 (by omega)) ?_
  exact Ev.now _
theorem impl_plus_f (x y : S27) (hx : okF2 x) (hy : okF2 y) : Ev (fun k => impl_Fraction_plus.f k x.f0 x.f1 y.f0 y.f1) ((plusF x y).f0, (plusF x y).f1, fitF (plusF x y).f0 (plusF x y).f1) := by
  obtain ⟨_, h2, h3, h4, h5⟩ := num_t x y hx hy
  unfold impl_Fraction_plus.f
  rw [wrap_of (x.f0 * y.f1) (by omega) (by omega), wrap_of (y.f0 * x.f1) (by omega) (by omega), wrap_of (x.f0 * y.f1 + y.f0 * x.f1) (by omega) (by omega), wrap_of (x.f1 * y.f1) (by omega) (by omega)]
  refine Ev.bind (f := fun _ bt => some (bt.1, bt.2.1, bt.2.2)) (impl_red_f (x.f0 * y.f1 + y.f0 * x.f1) (x.f1 * y.f1) (by omega) h2 (by omega)) ?_
  exact Ev.now _
theorem spec_plus_0 (a b : Int) : Ev (fun k => spec_l01Plus.f k a b 0 0) (0, 0, false) := by
  unfold spec_l01Plus.f
  rw [Int.mul_zero b, wrap_of 0 (by omega) (by omega)]
  have h : Ev (fun k => spec_l01Frac.f k (wrap64 (wrap64 (a * 0) + wrap64 (0 * b))) 0) ((0 : Int), (0 : Int), false) := by
    exact ⟨0, fun k _ => by dsimp only; unfold spec_l01Frac.f; exact if_pos rfl⟩
  refine Ev.bind (f := fun _ bt => some (bt.1, bt.2.1, bt.2.2)) h ?_
  exact Ev.now _
theorem ok01 : okF2 (⟨0, 1⟩ : S27) := by unfold okF2; decide
theorem redF_scale (g a b : Int) (hg : 0 < g) : redF (g * a) (g * b) = redF a b := by
  unfold redF
  have h1 : Int.gcd (g * a) (g * b) = g.natAbs * Int.gcd a b := Int.gcd_mul_left g a b
  have h2 : ((g.natAbs * Int.gcd a b : Nat) : Int) = g * (Int.gcd a b : Int) := by
    rw [Int.natCast_mul, show ((g.natAbs : Nat) : Int) = g by omega]
  rw [h1, h2, Int.mul_tdiv_mul_of_pos _ _ hg, Int.mul_tdiv_mul_of_pos _ _ hg]
theorem redF_zero (b : Int) (hb : 1 ≤ b) : redF 0 b = (0, 1) := by
  unfold redF
  have h : ((Int.gcd 0 b : Nat) : Int) = b := by rw [Int.gcd_zero_left]; omega
  rw [h, Int.zero_tdiv, Int.tdiv_self (by omega)]
theorem timesF_zero (x : S27) (n : Int) (hx : okF2 x) (h : n = 0 ∨ x.f0 = 0) : timesF x ⟨n, 1⟩ = ⟨0, 1⟩ := by
  have hb := fitF_bounds hx
  unfold timesF
  dsimp only
  have e : x.f0 * n = 0 := by rcases h with h | h <;> rw [h] <;> simp
  rw [e, Int.mul_one, redF_zero _ hb.1]
end Go.Proofs.Ytcklefgkbddlhaa.Pure
