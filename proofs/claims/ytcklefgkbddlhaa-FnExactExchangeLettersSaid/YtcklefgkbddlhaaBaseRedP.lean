/- Plain lemmas: sums and products of fractions in lowest terms, as both programs reckon them. -/
import Derived.Test.YtcklefgkbddlhaaPx7
import Derived.Test.YtcklefgkbddlhaaPx13
import Derived.Test.YtcklefgkbddlhaaBaseFracM
namespace Go.Proofs.Ytcklefgkbddlhaa.Pure
open Go.RowKit Go.Proofs.Ytcklefgkbddlhaa.P Go.Proofs.YtcklefgkbddlhaaW.PrintWords Go.Proofs.YtcklefgkbddlhaaW.PrintLast
set_option linter.unusedVariables false
set_option linter.unusedSimpArgs false

theorem fitF_bounds {a b : Int} (h : fitF a b = true) : 1 ≤ b ∧ b ≤ 1000000000 ∧ -1000000000 ≤ a ∧ a ≤ 1000000000 := by
  unfold fitF at h
  simp only [Bool.and_eq_true, decide_eq_true_eq] at h
  omega
theorem Ev.ofEq {α β : Type} {g : Nat → Option α} {r : α} {f : α → Nat → Option β} {s : β} (h : Ev g r) (hf : Ev (f r) s) : Ev (fun k => (g k).bind fun x => f x k) s := by
  obtain ⟨K, hK⟩ := h
  obtain ⟨M, hM⟩ := hf
  refine ⟨K + M, fun k hk => ?_⟩
  dsimp only
  rw [hK k (by omega), Option.bind_some]
  exact hM k (by omega)
theorem Ev.some {α : Type} (r : α) : Ev (fun _ => Option.some r) r := ⟨0, fun _ _ => rfl⟩
theorem tdiv_bound (a g : Int) (h : a.natAbs ≤ 9000000000000000000) : (Int.tdiv a g).natAbs ≤ 9000000000000000000 := by
  rw [Int.natAbs_tdiv]
  exact Nat.le_trans (Nat.div_le_self _ _) h
/-- A fraction in lowest terms. -/
def redF (a b : Int) : Int × Int := (Int.tdiv a (Int.gcd a b), Int.tdiv b (Int.gcd a b))
theorem gcd_ne {a b : Int} (hb : 1 ≤ b) : ((Int.gcd a b : Nat) : Int) ≠ 0 := by
  intro h
  have h1 : Int.gcd a b = 0 := by omega
  have h2 := (Int.gcd_eq_zero_iff.1 h1).2
  omega
theorem spec_frac_f (a b : Int) (ha : a.natAbs ≤ 9000000000000000000) (hb : 1 ≤ b) (hb2 : b.natAbs ≤ 9000000000000000000) :
    Ev (fun k => spec_l01Frac.f k a b) (if fitF (redF a b).1 (redF a b).2 = true then ((redF a b).1, (redF a b).2, true) else (0, 0, false)) := by
  have hg := spec_gcd_f b.natAbs a b (Nat.le_refl _) ha hb2
  have h0 := gcd_ne (a := a) hb
  have w1 := tdiv_bound a (Int.gcd a b) ha
  have w2 := tdiv_bound b (Int.gcd a b) hb2
  refine Ev.congr (fun k => ?_) (Ev.ofEq (f := fun t k => if t = 0 then none else ((spec_l01IsFrac.f k (wrap64 (Int.tdiv a t)) (wrap64 (Int.tdiv b t))).bind fun t117 => (if t117 = true then (some (wrap64 (Int.tdiv a t), wrap64 (Int.tdiv b t), true)) else (some (0, 0, false))))) hg ?_)
  · unfold spec_l01Frac.f
    rw [if_neg (by omega)]
    congr 1
    funext t
    rw [if_neg (by omega)]
  · refine Ev.congr (fun k => ?_) (Ev.ofEq (f := fun t _ => (if t = true then (some ((redF a b).1, (redF a b).2, true)) else (some (0, 0, false)))) (spec_isFrac_f (redF a b).1 (redF a b).2) ?_)
    · rw [if_neg h0, wrap_of _ (by omega) (by omega), wrap_of _ (by omega) (by omega)]
      rfl
    · refine ⟨0, fun _ _ => ?_⟩
      dsimp only
      split <;> rfl
theorem impl_red_f (a b : Int) (ha : a.natAbs ≤ 9000000000000000000) (hb : 1 ≤ b) (hb2 : b.natAbs ≤ 9000000000000000000) :
    Ev (fun k => impl_reduced.f k a b) ((redF a b).1, (redF a b).2, fitF (redF a b).1 (redF a b).2) := by
  have hg := impl_common_f a b ha hb2
  have h0 := gcd_ne (a := a) hb
  have w1 := tdiv_bound a (Int.gcd a b) ha
  have w2 := tdiv_bound b (Int.gcd a b) hb2
  refine Ev.congr (fun k => ?_) (Ev.ofEq (f := fun t k => if t = 0 then none else ((impl_IsFraction.f k (wrap64 (Int.tdiv a t)) (wrap64 (Int.tdiv b t))).bind fun t216 => (some (wrap64 (Int.tdiv a t), wrap64 (Int.tdiv b t), t216)))) hg ?_)
  · unfold impl_reduced.f
    congr 1
    funext t
    rw [if_neg (by omega)]
  · refine Ev.congr (fun k => ?_) (Ev.ofEq (f := fun t _ => some ((redF a b).1, (redF a b).2, t)) (impl_isFraction_f (redF a b).1 (redF a b).2) (Ev.some _))
    rw [if_neg h0, wrap_of _ (by omega) (by omega), wrap_of _ (by omega) (by omega)]
    rfl
end Go.Proofs.Ytcklefgkbddlhaa.Pure
