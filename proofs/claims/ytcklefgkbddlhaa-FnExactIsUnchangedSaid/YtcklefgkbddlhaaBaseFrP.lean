/- Plain lemmas: products and sums of fractions in lowest terms, and multiples by whole numbers. -/
import Derived.Test.YtcklefgkbddlhaaBaseRedP
namespace Go.Proofs.Ytcklefgkbddlhaa.Pure
open Go.RowKit Go.Proofs.Ytcklefgkbddlhaa.P Go.Proofs.YtcklefgkbddlhaaW.PrintWords Go.Proofs.YtcklefgkbddlhaaW.PrintLast
set_option linter.unusedVariables false
set_option linter.unusedSimpArgs false

def okF2 (x : S27) : Prop := fitF x.f0 x.f1 = true
def timesF (x y : S27) : S27 := ⟨(redF (x.f0 * y.f0) (x.f1 * y.f1)).1, (redF (x.f0 * y.f0) (x.f1 * y.f1)).2⟩
def plusF (x y : S27) : S27 := ⟨(redF (x.f0 * y.f1 + y.f0 * x.f1) (x.f1 * y.f1)).1, (redF (x.f0 * y.f1 + y.f0 * x.f1) (x.f1 * y.f1)).2⟩
theorem mul_b {a b : Int} (h1 : -1000000000 ≤ a) (h2 : a ≤ 1000000000) (h3 : -1000000000 ≤ b) (h4 : b ≤ 1000000000) : (a * b).natAbs ≤ 1000000000000000000 := by
  rw [Int.natAbs_mul]
  exact Nat.le_trans (Nat.mul_le_mul (show a.natAbs ≤ 1000000000 by omega) (show b.natAbs ≤ 1000000000 by omega)) (by decide)
theorem num_t (x y : S27) (hx : okF2 x) (hy : okF2 y) : (x.f0 * y.f0).natAbs ≤ 1000000000000000000 ∧ 1 ≤ x.f1 * y.f1 ∧ (x.f1 * y.f1).natAbs ≤ 1000000000000000000 ∧ (x.f0 * y.f1).natAbs ≤ 1000000000000000000 ∧ (y.f0 * x.f1).natAbs ≤ 1000000000000000000 := by
  have h1 := fitF_bounds hx
  have h2 := fitF_bounds hy
  refine ⟨mul_b (by omega) (by omega) (by omega) (by omega), ?_, mul_b (by omega) (by omega) (by omega) (by omega), mul_b (by omega) (by omega) (by omega) (by omega), mul_b (by omega) (by omega) (by omega) (by omega)⟩
  have := Int.mul_le_mul h1.1 h2.1 (by omega) (by omega)
  omega
theorem spec_plus_f (x y : S27) (hx : okF2 x) (hy : okF2 y) : Ev (fun k => spec_l01Plus.f k x.f0 x.f1 y.f0 y.f1) (if fitF (plusF x y).f0 (plusF x y).f1 = true then ((plusF x y).f0, (plusF x y).f1, true) else (0, 0, false)) := by
  obtain ⟨_, h2, h3, h4, h5⟩ := num_t x y hx hy
  unfold spec_l01Plus.f
  rw [wrap_of (x.f0 * y.f1) (by omega) (by omega), wrap_of (y.f0 * x.f1) (by omega) (by omega), wrap_of (x.f0 * y.f1 + y.f0 * x.f1) (by omega) (by omega), wrap_of (x.f1 * y.f1) (by omega) (by omega)]
  refine Ev.bind (f := fun _ bt => some (bt.1, bt.2.1, bt.2.2)) (spec_frac_f (x.f0 * y.f1 + y.f0 * x.f1) (x.f1 * y.f1) (by omega) h2 (by omega)) ?_
  exact Ev.now _
theorem impl_plus_f (x y : S27) (hx : okF2 x) (hy : okF2 y) : Ev (fun k => impl_Fraction_plus.f k x.f0 x.f1 y.f0 y.f1) ((plusF x y).f0, (plusF x y).f1, fitF (plusF x y).f0 (plusF x y).f1) := by
  obtain ⟨_, h2, h3, h4, h5⟩ := num_t x y hx hy
  unfold impl_Fraction_plus.f
  rw [wrap_of (x.f0 * y.f1) (by omega) (by omega), wrap_of (y.f0 * x.f1) (by omega) (by omega), wrap_of (x.f0 * y.f1 + y.f0 * x.f1) (by omega) (by omega), wrap_of (x.f1 * y.f1) (by omega) (by omega)]
  refine Ev.bind (f := fun _ bt => some (bt.1, bt.2.1, bt.2.2)) (impl_red_f (x.f0 * y.f1 + y.f0 * x.f1) (x.f1 * y.f1) (by omega) h2 (by omega)) ?_
  exact Ev.now _
theorem spec_plus_0 (a b : Int) : Ev (fun k => spec_l01Plus.f k a b 0 0) (0, 0, false) := by
  unfold spec_l01Plus.f
  rw [Int.mul_zero b, wrap_of 0 (by omega) (by omega)]
  have h : Ev (fun k => spec_l01Frac.f k (wrap64 (wrap64 (a * 0) + wrap64 (0 * b))) 0) ((0 : Int), (0 : Int), false) := by
    exact ⟨0, fun k _ => by dsimp only; unfold spec_l01Frac.f; exact if_pos rfl⟩
  refine Ev.bind (f := fun _ bt => some (bt.1, bt.2.1, bt.2.2)) h ?_
  exact Ev.now _
theorem ok01 : okF2 (⟨0, 1⟩ : S27) := by unfold okF2; decide
theorem redF_scale (g a b : Int) (hg : 0 < g) : redF (g * a) (g * b) = redF a b := by
  unfold redF
  have h1 : Int.gcd (g * a) (g * b) = g.natAbs * Int.gcd a b := Int.gcd_mul_left g a b
  have h2 : ((g.natAbs * Int.gcd a b : Nat) : Int) = g * (Int.gcd a b : Int) := by
    rw [Int.natCast_mul, show ((g.natAbs : Nat) : Int) = g by omega]
  rw [h1, h2, Int.mul_tdiv_mul_of_pos _ _ hg, Int.mul_tdiv_mul_of_pos _ _ hg]
theorem redF_zero (b : Int) (hb : 1 ≤ b) : redF 0 b = (0, 1) := by
  unfold redF
  have h : ((Int.gcd 0 b : Nat) : Int) = b := by rw [Int.gcd_zero_left]; omega
  rw [h, Int.zero_tdiv, Int.tdiv_self (by omega)]
theorem timesF_zero (x : S27) (n : Int) (hx : okF2 x) (h : n = 0 ∨ x.f0 = 0) : timesF x ⟨n, 1⟩ = ⟨0, 1⟩ := by
  have hb := fitF_bounds hx
  unfold timesF
  dsimp only
  have e : x.f0 * n = 0 := by rcases h with h | h <;> rw [h] <;> simp
  rw [e, Int.mul_one, redF_zero _ hb.1]
theorem whole_f (x : S27) (n : Int) (hx : okF2 x) (hn : n.natAbs ≤ 1000000000) : Ev (fun k => impl_Fraction_timesWhole.f k x.f0 x.f1 n) ((timesF x ⟨n, 1⟩).f0, (timesF x ⟨n, 1⟩).f1, fitF (timesF x ⟨n, 1⟩).f0 (timesF x ⟨n, 1⟩).f1) := by
  have hb := fitF_bounds hx
  by_cases h : n = 0 ∨ x.f0 = 0
  · rw [timesF_zero x n hx h]
    refine Ev.step (f := fun _ => some ((0 : Int), (1 : Int), true)) (fun k => ?_) (Ev.now _)
    unfold impl_Fraction_timesWhole.f
    by_cases h0 : n = 0
    · rw [if_pos h0]
      rfl
    · rw [if_neg h0, show (x.f0 == 0) = true by simpa using h.resolve_left h0]
      rfl
  · have hn0 : n ≠ 0 := fun e => h (.inl e)
    have hx0 : x.f0 ≠ 0 := fun e => h (.inr e)
    obtain ⟨g, hg⟩ : ∃ g : Int, ((Int.gcd n x.f1 : Nat) : Int) = g := ⟨_, rfl⟩
    have hg1 : 1 ≤ g := by
      have : Int.gcd n x.f1 ≠ 0 := fun e => hn0 (Int.gcd_eq_zero_iff.1 e).1
      omega
    obtain ⟨p, hp⟩ : g ∣ n := hg ▸ Int.gcd_dvd_left n x.f1
    obtain ⟨q, hq⟩ : g ∣ x.f1 := hg ▸ Int.gcd_dvd_right n x.f1
    have hdp : Int.tdiv n g = p := by rw [hp, Int.mul_tdiv_cancel_left _ (by omega)]
    have hdq : Int.tdiv x.f1 g = q := by rw [hq, Int.mul_tdiv_cancel_left _ (by omega)]
    have hpn : p.natAbs ≤ 1000000000 := by
      have : (Int.tdiv n g).natAbs ≤ n.natAbs := by rw [Int.natAbs_tdiv]; exact Nat.div_le_self _ _
      rw [hdp] at this
      omega
    have hq1 : 1 ≤ q := by
      by_cases h1 : 1 ≤ q
      · exact h1
      · have := Int.mul_le_mul_of_nonneg_left (show q ≤ 0 by omega) (show 0 ≤ g by omega)
        omega
    have hqb : q.natAbs ≤ 1000000000 := by
      have : (Int.tdiv x.f1 g).natAbs ≤ x.f1.natAbs := by rw [Int.natAbs_tdiv]; exact Nat.div_le_self _ _
      rw [hdq] at this
      omega
    have hb2 := mul_b hb.2.2.1 hb.2.2.2 (show -1000000000 ≤ p by omega) (show p ≤ 1000000000 by omega)
    have e : redF (x.f0 * n) (x.f1 * 1) = redF (x.f0 * p) q := by
      rw [Int.mul_one, ← redF_scale g (x.f0 * p) q (by omega), ← hq, show g * (x.f0 * p) = x.f0 * n by rw [hp, Int.mul_left_comm]]
    unfold timesF
    dsimp only
    rw [e]
    have hc := impl_common_f n x.f1 (by omega) (by omega)
    rw [hg] at hc
    refine Ev.step (f := fun k => (impl_common.f k n x.f1).bind fun t370 => (if t370 = 0 then (none) else ((impl_upTo.f (wrap64 (Int.tdiv n t370)) 1000000000).bind fun t371 => (if t371 = true then ((impl_reduced.f k (wrap64 (x.f0 * (wrap64 (Int.tdiv n t370)))) (wrap64 (Int.tdiv x.f1 t370))).bind fun bt372 => (some (bt372.1, bt372.2.1, bt372.2.2))) else ((impl_zero.f).bind fun bt375 => (some (bt375.1, bt375.2, false))))))) (fun k => ?_) ?_
    · unfold impl_Fraction_timesWhole.f
      rw [if_neg hn0, show (x.f0 == 0) = false by simpa using hx0]
      rfl
    · refine Ev.bind (f := fun k t370 => (if t370 = 0 then (none) else ((impl_upTo.f (wrap64 (Int.tdiv n t370)) 1000000000).bind fun t371 => (if t371 = true then ((impl_reduced.f k (wrap64 (x.f0 * (wrap64 (Int.tdiv n t370)))) (wrap64 (Int.tdiv x.f1 t370))).bind fun bt372 => (some (bt372.1, bt372.2.1, bt372.2.2))) else ((impl_zero.f).bind fun bt375 => (some (bt375.1, bt375.2, false))))))) hc ?_
      have hr := impl_red_f (x.f0 * p) q (by omega) hq1 (by omega)
      refine Ev.congr (fun k => ?_) (Ev.bind (f := fun _ bt => some (bt.1, bt.2.1, bt.2.2)) hr (Ev.now _))
      rw [if_neg (by omega), hdp, hdq, wrap_of p (by omega) (by omega), wrap_of q (by omega) (by omega), impl_upTo_f _ _ (by omega) (by omega), Option.bind_some, if_pos (by simp only [Bool.and_eq_true, decide_eq_true_eq]; omega), wrap_of (x.f0 * p) (by omega) (by omega)]
end Go.Proofs.Ytcklefgkbddlhaa.Pure
