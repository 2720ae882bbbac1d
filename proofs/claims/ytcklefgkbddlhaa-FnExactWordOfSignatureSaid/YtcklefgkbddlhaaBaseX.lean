/- Plain lemmas and contracts of this session, of which the parts' own heads tell. -/
import Derived.Test.YtcklefgkbddlhaaPx10
import Derived.Test.YtcklefgkbddlhaaPx3
import Derived.Test.YtcklefgkbddlhaaPx6
import Derived.Test.YtcklefgkbddlhaaPx15
import Derived.Test.YtcklefgkbddlhaaPx7
import Derived.Test.YtcklefgkbddlhaaPx13
import Derived.Test.YtcklefgkbddlhaaPx14
import Derived.Test.YtcklefgkbddlhaaPx4
import Derived.Test.YtcklefgkbddlhaaPx12
import Derived.Lib.Bytealg
import Derived.Lib.Strings
/- Plain lemmas on wrapped numbers. -/
namespace Go.Proofs.Ytcklefgkbddlhaa.Pure
open Go.RowKit Go.Proofs.Ytcklefgkbddlhaa.P Go.Proofs.YtcklefgkbddlhaaW.PrintWords Go.Proofs.YtcklefgkbddlhaaW.PrintLast
set_option linter.unusedVariables false
set_option linter.unusedSimpArgs false

theorem wrap_of (i : Int) (h0 : -9223372036854775808 ≤ i) (h1 : i ≤ 9223372036854775807) : wrap64 i = i := by unfold wrap64; omega
theorem wrap_nat (i : Nat) (h : i < 4611686018427387904) : wrap64 ((i : Int) + 1) = ((i + 1 : Nat) : Int) := by unfold wrap64; omega
theorem rd_nat (l : List Int) (i : Nat) (h : i < l.length) : rd l (i : Int) = l[i] := by simp [rd, h]
end Go.Proofs.Ytcklefgkbddlhaa.Pure
/- Plain lemmas: the coefficients of signatures, times the factorials of the lengths of words. -/
namespace Go.Proofs.Ytcklefgkbddlhaa.Pure
set_option linter.unusedVariables false
set_option linter.unusedSimpArgs false

def fct : Nat → Nat
  | 0 => 1
  | n + 1 => (n + 1) * fct n
def bin (q i : Nat) : Nat := fct q / (fct i * fct (q - i))
theorem fct_pos : ∀ n, 1 ≤ fct n
  | 0 => by decide
  | n + 1 => by
    have := fct_pos n
    rw [fct]
    exact Nat.le_trans (by omega) (Nat.mul_le_mul (Nat.le_add_left 1 n) this)
theorem bin_fct : ∀ q, q ≤ 5 → ∀ i, i ≤ q → bin q i * (fct i * fct (q - i)) = fct q := by decide
theorem fct_small : ∀ q, q ≤ 5 → fct q ≤ 120 := by decide
def bsum (L q : Nat) : Nat → Nat
  | 0 => 0
  | i + 1 => bsum L q i + bin q i * L ^ i
theorem bsum_le : ∀ L, L ≤ 12 → ∀ q, q ≤ 5 → ∀ i, i ≤ q + 1 → bsum L q i ≤ (L + 1) ^ q := by decide
theorem pow13 : ∀ L, L ≤ 13 → ∀ q, q ≤ 5 → L ^ q ≤ 371293 := by decide
/-- The sum over the parts of a word, up to a place. -/
def cv (A B : List UInt8 → Int) (w : List UInt8) : Nat → Int
  | 0 => 0
  | i + 1 => cv A B w i + (bin w.length i : Int) * (A (w.take i) * B (w.drop i))
def conv (A B : List UInt8 → Int) (w : List UInt8) : Int := cv A B w (w.length + 1)
theorem cv_bound (A B : List UInt8 → Int) (w : List UInt8) (L : Nat) (hA : ∀ i, i ≤ w.length → (A (w.take i)).natAbs ≤ L ^ i) (hB : ∀ i, i ≤ w.length → (B (w.drop i)).natAbs ≤ 1) : ∀ i, i ≤ w.length + 1 → (cv A B w i).natAbs ≤ bsum L w.length i
  | 0, _ => by simp [cv]
  | i + 1, h => by
    have ih := cv_bound A B w L hA hB i (by omega)
    have h1 := hA i (by omega)
    have h2 := hB i (by omega)
    have h3 : (A (w.take i) * B (w.drop i)).natAbs ≤ L ^ i := by
      rw [Int.natAbs_mul]
      exact Nat.le_trans (Nat.mul_le_mul h1 h2) (by omega)
    have h4 : ((bin w.length i : Int) * (A (w.take i) * B (w.drop i))).natAbs ≤ bin w.length i * L ^ i := by
      rw [Int.natAbs_mul, Int.natAbs_natCast]
      exact Nat.mul_le_mul_left _ h3
    rw [cv, bsum]
    omega
/-- A sum with one part alone. -/
theorem cv_one (A B : List UInt8 → Int) (w : List UInt8) (p : Nat) (h : ∀ i, i ≤ w.length → i ≠ p → A (w.take i) * B (w.drop i) = 0) : ∀ i, i ≤ w.length + 1 → cv A B w i = if p < i then (bin w.length p : Int) * (A (w.take p) * B (w.drop p)) else 0
  | 0, _ => by simp [cv]
  | i + 1, hi => by
    rw [cv, cv_one A B w p h i (by omega)]
    by_cases e : i = p
    · subst e
      rw [if_neg (by omega), if_pos (by omega), Int.zero_add]
    · rw [h i (by omega) e, Int.mul_zero, Int.add_zero]
      by_cases h2 : p < i
      · rw [if_pos h2, if_pos (by omega)]
      · rw [if_neg h2, if_neg (by omega)]
/-- The words of one letter. -/
def rp (c : UInt8) (n : Nat) : List UInt8 := List.replicate n c
def unitA (w : List UInt8) : Int := if w = [] then 1 else 0
/-- A step, its powers, the parts of its exponential. -/
def stepA (c : UInt8) (s : Int) (w : List UInt8) : Int := if w = [c] then s else 0
def powA (c : UInt8) (s : Int) (k : Nat) (w : List UInt8) : Int := if w = rp c k then s ^ k * (fct k : Int) else 0
def partA (c : UInt8) (s : Int) (k : Nat) (w : List UInt8) : Int := if w = rp c k then s ^ k else 0
def expA (c : UInt8) (s : Int) (k : Nat) (w : List UInt8) : Int := if w = rp c w.length ∧ w.length < k then s ^ w.length else 0
theorem powA_zero (c : UInt8) (s : Int) : powA c s 0 = unitA := by
  funext w
  simp [powA, unitA, rp, fct]
theorem bin_last : ∀ q, q ≤ 5 → bin (q + 1) q = q + 1 := by decide
theorem pow_zero (c : UInt8) (s : Int) (k : Nat) (w : List UInt8) : ∀ i, i ≤ w.length → i ≠ k → powA c s k (w.take i) * stepA c s (w.drop i) = 0 := fun i hi hne => by
  unfold powA
  rw [if_neg (fun e => hne (by have := congrArg List.length e; simp [rp] at this; omega)), Int.zero_mul]
theorem bin_small : ∀ q, q ≤ 5 → ∀ i, bin q i ≤ 120 := fun q hq i => Nat.le_trans (Nat.div_le_self _ _) (fct_small q hq)
theorem powA_succ (c : UInt8) (s : Int) (k : Nat) (w : List UInt8) (hw : w.length ≤ 5) : conv (powA c s k) (stepA c s) w = powA c s (k + 1) w := by
  unfold conv
  rw [cv_one (powA c s k) (stepA c s) w k (fun i hi hne => ?_) _ (Nat.le_refl _)]
  · by_cases hk : k < w.length + 1
    · rw [if_pos hk]
      unfold powA stepA
      by_cases h : w = rp c (k + 1)
      · have hl : w.length = k + 1 := by rw [h]; simp [rp]
        have h1 : w.take k = rp c k := by rw [h]; simp [rp]
        have h2 : w.drop k = [c] := by rw [h]; simp [rp]
        rw [if_pos h, if_pos h1, if_pos h2, hl, bin_last k (by omega), fct]
        rw [Int.natCast_mul, Int.pow_succ]
        generalize s ^ k = x
        generalize ((fct k : Nat) : Int) = y
        generalize ((k + 1 : Nat) : Int) = z
        rw [Int.mul_assoc, Int.mul_comm y s, ← Int.mul_assoc x s y, ← Int.mul_assoc, Int.mul_comm z, Int.mul_assoc, ]
      · rw [if_neg h]
        by_cases h1 : w.take k = rp c k
        · by_cases h2 : w.drop k = [c]
          · exfalso
            apply h
            rw [← List.take_append_drop k w, h1, h2, rp, rp, List.replicate_succ']
          · rw [if_neg h2]; simp
        · rw [if_neg h1]; simp
    · rw [if_neg hk]
      unfold powA
      rw [if_neg (fun e => hk (by rw [e]; simp [rp]; omega))]
  · unfold powA
    rw [if_neg (fun e => hne (by have := congrArg List.length e; simp [rp] at this; omega)), Int.zero_mul]
theorem expA_succ (c : UInt8) (s : Int) (k : Nat) (w : List UInt8) : expA c s k w + partA c s k w = expA c s (k + 1) w := by
  unfold expA partA
  by_cases h : w = rp c w.length
  · by_cases hl : w.length = k
    · have h' : w = rp c k := by rw [← hl]; exact h
      rw [if_neg (fun e => by omega), if_pos h', if_pos ⟨h, by omega⟩, hl, Int.zero_add]
    · have h' : ¬ w = rp c k := fun e => hl (by rw [e]; simp [rp])
      rw [if_neg h', Int.add_zero]
      by_cases h3 : w.length < k
      · rw [if_pos ⟨h, h3⟩, if_pos ⟨h, by omega⟩]
      · rw [if_neg (fun e => h3 e.2), if_neg (fun e => h3 (by omega))]
  · have h' : ¬ w = rp c k := fun e => h (by rw [e]; simp [rp])
    rw [if_neg (fun e => h e.1), if_neg h', if_neg (fun e => h e.1)]; rfl
theorem expA_zero (c : UInt8) (s : Int) (w : List UInt8) : expA c s 0 w = 0 := by
  unfold expA
  rw [if_neg (fun e => by omega)]
theorem pow_sign (s : Int) (hs : s = 1 ∨ s = -1) : ∀ k : Nat, (s ^ k).natAbs ≤ 1
  | 0 => by simp
  | k + 1 => by
    have := pow_sign s hs k
    rw [Int.pow_succ, Int.natAbs_mul]
    rcases hs with rfl | rfl <;> simp
theorem expA_small (c : UInt8) (s : Int) (hs : s = 1 ∨ s = -1) (k : Nat) (w : List UInt8) : (expA c s k w).natAbs ≤ 1 := by
  unfold expA
  split
  · exact pow_sign s hs _
  · decide
/-- The letter and the sign of a number. -/
def ltr (n : Int) : UInt8 := UInt8.ofNat (47 + n.natAbs)
def sgn (n : Int) : Int := if 0 < n then 1 else -1
theorem sgn_or (n : Int) : sgn n = 1 ∨ sgn n = -1 := by unfold sgn; split <;> simp
/-- The coefficients of a signature, times the factorial of a word's length. -/
def sigA (N : Nat) : List Int → (List UInt8 → Int) → List UInt8 → Int
  | [], A => A
  | n :: l, A => sigA N l (conv A (expA (ltr n) (sgn n) (N + 1)))
theorem conv_bound (A : List UInt8 → Int) (n : Int) (N L : Nat) (hL : L ≤ 12) (hA : ∀ w : List UInt8, w.length ≤ 5 → (A w).natAbs ≤ L ^ w.length) (w : List UInt8) (hw : w.length ≤ 5) : ∀ i, i ≤ w.length + 1 → (cv A (expA (ltr n) (sgn n) (N + 1)) w i).natAbs ≤ (L + 1) ^ w.length := fun i hi => by
  refine Nat.le_trans (cv_bound A _ w L (fun j hj => ?_) (fun j hj => expA_small _ _ (sgn_or n) _ _) i hi) (bsum_le L hL _ hw i hi)
  have := hA (w.take j) (by rw [List.length_take]; omega)
  rw [List.length_take, Nat.min_eq_left hj] at this
  exact this
end Go.Proofs.Ytcklefgkbddlhaa.Pure
/- Plain lemmas: the order of words. -/
namespace Go.Proofs.Ytcklefgkbddlhaa.Pure
open Go.RowKit Go.Proofs.Ytcklefgkbddlhaa.P Go.Proofs.YtcklefgkbddlhaaW.PrintWords Go.Proofs.YtcklefgkbddlhaaW.PrintLast
set_option linter.unusedVariables false
set_option linter.unusedSimpArgs false

theorem rdI_nat (l : List S89) (i : Nat) (h : i < l.length) : rd_T89 l (i : Int) = l[i] := by simp [rd_T89, List.getD_eq_getElem?_getD, h]
/-- The order of words. -/
def befW (v w : ByteArray) : Bool := if v.size = w.size then Op.bytesLess v.toList w.toList else decide (v.size < w.size)
theorem spec_before_f (v w : ByteArray) : spec_l01Before.f v w = some (befW v w) := by
  unfold spec_l01Before.f befW
  by_cases h : v.size = w.size
  · rw [if_pos (by omega), if_pos h]
  · rw [if_neg (by omega), if_neg h]
    congr 1
    rw [decide_eq_decide]
    omega
theorem spec_in_f (n lo hi : Int) : spec_l01In.f n lo hi = some (decide (lo ≤ n) && decide (n ≤ hi)) := by
  unfold spec_l01In.f
  by_cases h : n ≥ lo
  · rw [if_pos h]; simp [show lo ≤ n from h]
  · rw [if_neg h]; simp [show ¬ lo ≤ n from h]
theorem impl_within_f (n lo hi : Int) : impl_within.f n lo hi = some (decide (lo ≤ n) && decide (n ≤ hi)) := by
  unfold impl_within.f
  by_cases h : n ≥ lo
  · rw [if_pos h]; simp [show lo ≤ n from h]
  · rw [if_neg h]; simp [show ¬ lo ≤ n from h]
theorem impl_upTo_f (n m : Int) (h0 : -1000000000000000000 ≤ m) (h1 : m ≤ 1000000000000000000) : impl_upTo.f n m = some (decide (-m ≤ n) && decide (n ≤ m)) := by
  unfold impl_upTo.f
  rw [impl_within_f, Option.bind_some, wrap_of _ (by omega) (by omega)]
/-- A fraction that is one. -/
def fitF (a b : Int) : Bool := (decide (1 ≤ b) && decide (b ≤ 1000000000)) && ((decide (-1000000000 ≤ a) && decide (a ≤ 1000000000)) && decide (Int.gcd a b = 1))
theorem gcd_step (x y : Int) (h : y ≠ 0) : Int.gcd y (Int.tmod x y) = Int.gcd x y := by
  unfold Int.gcd
  rw [Int.natAbs_tmod, Nat.gcd_comm x.natAbs y.natAbs, Nat.gcd_comm y.natAbs (x.natAbs % y.natAbs), ← Nat.gcd_rec]
theorem tmod_lt (x y : Int) (h : y ≠ 0) : (Int.tmod x y).natAbs < y.natAbs := by
  rw [Int.natAbs_tmod]
  exact Nat.mod_lt _ (by omega)
theorem spec_gcd_f : ∀ (m : Nat) (x y : Int), y.natAbs ≤ m → x.natAbs ≤ 9000000000000000000 → y.natAbs ≤ 9000000000000000000 → Ev (fun k => spec_l01Gcd.f k x y) (Int.gcd x y : Int) := by
  intro m
  induction m with
  | zero =>
    intro x y hy h1 h2
    obtain rfl : y = 0 := by omega
    refine Ev.step (f := fun _ => some ((Int.gcd x 0 : Nat) : Int)) (fun k => ?_) (Ev.now _)
    simp only [spec_l01Gcd.f, spec_l01Gcd.l0]
    rw [if_pos trivial, wrap_of _ (by omega) (by omega), Int.gcd_zero_right]
    congr 1
    unfold mx
    split <;> omega
  | succ m ih =>
    intro x y hy h1 h2
    by_cases h0 : y = 0
    · exact ih x y (by omega) h1 h2
    · have h := ih y (Int.tmod x y) (by have := tmod_lt x y h0; omega) h2 (by have := tmod_lt x y h0; omega)
      rw [gcd_step x y h0] at h
      refine Ev.step (fun k => ?_) h
      simp only [spec_l01Gcd.f, spec_l01Gcd.l0]
      rw [if_neg h0]
theorem impl_common_l0 : ∀ (m : Nat) (x y : Int), y.natAbs ≤ m → 0 ≤ x → 0 ≤ y → Ev (fun k => impl_common.l0 k x y) (Int.gcd x y : Int) := by
  intro m
  induction m with
  | zero =>
    intro x y hy h1 h2
    obtain rfl : y = 0 := by omega
    refine Ev.step (f := fun _ => some ((Int.gcd x 0 : Nat) : Int)) (fun k => ?_) (Ev.now _)
    simp only [impl_common.l0]
    rw [if_pos trivial, Int.gcd_zero_right]
    congr 1
    omega
  | succ m ih =>
    intro x y hy h1 h2
    by_cases h0 : y = 0
    · exact ih x y (by omega) h1 h2
    · have h := ih y (Int.tmod x y) (by have := tmod_lt x y h0; omega) h2 (Int.tmod_nonneg y h1)
      rw [gcd_step x y h0] at h
      refine Ev.step (fun k => ?_) h
      simp only [impl_common.l0]
      rw [if_neg h0]
theorem size_natAbs (x : Int) (h : x.natAbs ≤ 9000000000000000000) : impl_size.f x = some (x.natAbs : Int) := by
  unfold impl_size.f
  rw [wrap_of _ (by omega) (by omega)]
  congr 1
  unfold mx
  split <;> omega
theorem impl_common_f (x y : Int) (h1 : x.natAbs ≤ 9000000000000000000) (h2 : y.natAbs ≤ 9000000000000000000) : Ev (fun k => impl_common.f k x y) (Int.gcd x y : Int) := by
  have h := impl_common_l0 y.natAbs (x.natAbs : Int) (y.natAbs : Int) (by omega) (by omega) (by omega)
  refine Ev.congr (fun k => ?_) (show Ev (fun k => impl_common.l0 k (x.natAbs : Int) (y.natAbs : Int)) (Int.gcd x y : Int) from by
    have e : Int.gcd (x.natAbs : Int) (y.natAbs : Int) = Int.gcd x y := by simp [Int.gcd]
    rw [e] at h
    exact h)
  unfold impl_common.f
  rw [size_natAbs x h1, size_natAbs y h2]
  rfl
theorem gcd_one (a b : Int) : (((Int.gcd a b : Nat) : Int) == 1) = decide (Int.gcd a b = 1) := by
  rw [Bool.eq_iff_iff, beq_iff_eq, decide_eq_true_eq]
  omega
theorem spec_isFrac_f (a b : Int) : Ev (fun k => spec_l01IsFrac.f k a b) (fitF a b) := by
  unfold spec_l01IsFrac.f fitF
  simp only [spec_in_f, Option.bind_some]
  by_cases hb : (decide (1 ≤ b) && decide (b ≤ 1000000000)) = true
  · rw [hb]
    by_cases ha : (decide (-1000000000 ≤ a) && decide (a ≤ 1000000000)) = true
    · rw [ha]
      simp only [if_true, Bool.true_and]
      simp only [Bool.and_eq_true, decide_eq_true_eq] at ha hb
      have h := Ev.bind (f := fun _ t => some (t == (1 : Int))) (spec_gcd_f b.natAbs a b (Nat.le_refl _) (by omega) (by omega)) (Ev.now _)
      rw [gcd_one] at h
      exact h
    · rw [Bool.eq_false_iff.mpr ha]
      exact Ev.now _
  · rw [Bool.eq_false_iff.mpr hb]
    exact Ev.now _
theorem impl_isFraction_f (a b : Int) : Ev (fun k => impl_IsFraction.f k a b) (fitF a b) := by
  unfold impl_IsFraction.f fitF
  simp only [impl_within_f, impl_upTo_f a 1000000000 (by decide) (by decide), Option.bind_some]
  by_cases hb : (decide (1 ≤ b) && decide (b ≤ 1000000000)) = true
  · rw [hb]
    by_cases ha : (decide (-1000000000 ≤ a) && decide (a ≤ 1000000000)) = true
    · rw [ha]
      simp only [if_true, Bool.true_and]
      simp only [Bool.and_eq_true, decide_eq_true_eq] at ha hb
      have h := Ev.bind (f := fun _ t => some (t == (1 : Int))) (impl_common_f a b (by omega) (by omega)) (Ev.now _)
      rw [gcd_one] at h
      exact h
    · rw [Bool.eq_false_iff.mpr ha]
      exact Ev.now _
  · rw [Bool.eq_false_iff.mpr hb]
    exact Ev.now _
theorem fitF_bounds {a b : Int} (h : fitF a b = true) : 1 ≤ b ∧ b ≤ 1000000000 ∧ -1000000000 ≤ a ∧ a ≤ 1000000000 := by
  unfold fitF at h
  simp only [Bool.and_eq_true, decide_eq_true_eq] at h
  omega
theorem Ev.ofEq {α β : Type} {g : Nat → Option α} {r : α} {f : α → Nat → Option β} {s : β} (h : Ev g r) (hf : Ev (f r) s) : Ev (fun k => (g k).bind fun x => f x k) s := by
  obtain ⟨K, hK⟩ := h
  obtain ⟨M, hM⟩ := hf
  refine ⟨K + M, fun k hk => ?_⟩
  dsimp only
  rw [hK k (by omega), Option.bind_some]
  exact hM k (by omega)
theorem Ev.some {α : Type} (r : α) : Ev (fun _ => Option.some r) r := ⟨0, fun _ _ => rfl⟩
theorem tdiv_bound (a g : Int) (h : a.natAbs ≤ 9000000000000000000) : (Int.tdiv a g).natAbs ≤ 9000000000000000000 := by
  rw [Int.natAbs_tdiv]
  exact Nat.le_trans (Nat.div_le_self _ _) h
/-- A fraction in lowest terms. -/
def redF (a b : Int) : Int × Int := (Int.tdiv a (Int.gcd a b), Int.tdiv b (Int.gcd a b))
theorem gcd_ne {a b : Int} (hb : 1 ≤ b) : ((Int.gcd a b : Nat) : Int) ≠ 0 := by
  intro h
  have h1 : Int.gcd a b = 0 := by omega
  have h2 := (Int.gcd_eq_zero_iff.1 h1).2
  omega
theorem spec_frac_f (a b : Int) (ha : a.natAbs ≤ 9000000000000000000) (hb : 1 ≤ b) (hb2 : b.natAbs ≤ 9000000000000000000) :
    Ev (fun k => spec_l01Frac.f k a b) (if fitF (redF a b).1 (redF a b).2 = true then ((redF a b).1, (redF a b).2, true) else (0, 0, false)) := by
  have hg := spec_gcd_f b.natAbs a b (Nat.le_refl _) ha hb2
  have h0 := gcd_ne (a := a) hb
  have w1 := tdiv_bound a (Int.gcd a b) ha
  have w2 := tdiv_bound b (Int.gcd a b) hb2
  refine Ev.congr (fun k => ?_) (Ev.ofEq (f := fun t k => if t = 0 then none else ((spec_l01IsFrac.f k (wrap64 (Int.tdiv a t)) (wrap64 (Int.tdiv b t))).bind fun t117 => (if t117 = true then (some (wrap64 (Int.tdiv a t), wrap64 (Int.tdiv b t), true)) else (some (0, 0, false))))) hg ?_)
  · unfold spec_l01Frac.f
    rw [if_neg (by omega)]
    congr 1
    funext t
    rw [if_neg (by omega)]
  · refine Ev.congr (fun k => ?_) (Ev.ofEq (f := fun t _ => (if t = true then (some ((redF a b).1, (redF a b).2, true)) else (some (0, 0, false)))) (spec_isFrac_f (redF a b).1 (redF a b).2) ?_)
    · rw [if_neg h0, wrap_of _ (by omega) (by omega), wrap_of _ (by omega) (by omega)]
      rfl
    · refine ⟨0, fun _ _ => ?_⟩
      dsimp only
      split <;> rfl
theorem impl_red_f (a b : Int) (ha : a.natAbs ≤ 9000000000000000000) (hb : 1 ≤ b) (hb2 : b.natAbs ≤ 9000000000000000000) :
    Ev (fun k => impl_reduced.f k a b) ((redF a b).1, (redF a b).2, fitF (redF a b).1 (redF a b).2) := by
  have hg := impl_common_f a b ha hb2
  have h0 := gcd_ne (a := a) hb
  have w1 := tdiv_bound a (Int.gcd a b) ha
  have w2 := tdiv_bound b (Int.gcd a b) hb2
  refine Ev.congr (fun k => ?_) (Ev.ofEq (f := fun t k => if t = 0 then none else ((impl_IsFraction.f k (wrap64 (Int.tdiv a t)) (wrap64 (Int.tdiv b t))).bind fun t216 => (some (wrap64 (Int.tdiv a t), wrap64 (Int.tdiv b t), t216)))) hg ?_)
  · unfold impl_reduced.f
    congr 1
    funext t
    rw [if_neg (by omega)]
  · refine Ev.congr (fun k => ?_) (Ev.ofEq (f := fun t _ => some ((redF a b).1, (redF a b).2, t)) (impl_isFraction_f (redF a b).1 (redF a b).2) (Ev.some _))
    rw [if_neg h0, wrap_of _ (by omega) (by omega), wrap_of _ (by omega) (by omega)]
    rfl
def okF2 (x : S27) : Prop := fitF x.f0 x.f1 = true
def timesF (x y : S27) : S27 := ⟨(redF (x.f0 * y.f0) (x.f1 * y.f1)).1, (redF (x.f0 * y.f0) (x.f1 * y.f1)).2⟩
def plusF (x y : S27) : S27 := ⟨(redF (x.f0 * y.f1 + y.f0 * x.f1) (x.f1 * y.f1)).1, (redF (x.f0 * y.f1 + y.f0 * x.f1) (x.f1 * y.f1)).2⟩
theorem mul_b {a b : Int} (h1 : -1000000000 ≤ a) (h2 : a ≤ 1000000000) (h3 : -1000000000 ≤ b) (h4 : b ≤ 1000000000) : (a * b).natAbs ≤ 1000000000000000000 := by
  rw [Int.natAbs_mul]
  exact Nat.le_trans (Nat.mul_le_mul (show a.natAbs ≤ 1000000000 by omega) (show b.natAbs ≤ 1000000000 by omega)) (by decide)
theorem num_t (x y : S27) (hx : okF2 x) (hy : okF2 y) : (x.f0 * y.f0).natAbs ≤ 1000000000000000000 ∧ 1 ≤ x.f1 * y.f1 ∧ (x.f1 * y.f1).natAbs ≤ 1000000000000000000 ∧ (x.f0 * y.f1).natAbs ≤ 1000000000000000000 ∧ (y.f0 * x.f1).natAbs ≤ 1000000000000000000 := by
  have h1 := fitF_bounds hx
  have h2 := fitF_bounds hy
  refine ⟨mul_b (by omega) (by omega) (by omega) (by omega), ?_, mul_b (by omega) (by omega) (by omega) (by omega), mul_b (by omega) (by omega) (by omega) (by omega), mul_b (by omega) (by omega) (by omega) (by omega)⟩
  have := Int.mul_le_mul h1.1 h2.1 (by omega) (by omega)
  omega
theorem spec_plus_f (x y : S27) (hx : okF2 x) (hy : okF2 y) : Ev (fun k => spec_l01Plus.f k x.f0 x.f1 y.f0 y.f1) (if fitF (plusF x y).f0 (plusF x y).f1 = true then ((plusF x y).f0, (plusF x y).f1, true) else (0, 0, false)) := by
  obtain ⟨_, h2, h3, h4, h5⟩ := num_t x y hx hy
  unfold spec_l01Plus.f
  rw [wrap_of (x.f0 * y.f1) (by omega) (by omega), wrap_of (y.f0 * x.f1) (by omega) (by omega), wrap_of (x.f0 * y.f1 + y.f0 * x.f1) (by omega) (by omega), wrap_of (x.f1 * y.f1) (by omega) (by omega)]
  refine Ev.bind (f := fun _ bt => some (bt.1, bt.2.1, bt.2.2)) (spec_frac_f (x.f0 * y.f1 + y.f0 * x.f1) (x.f1 * y.f1) (by omega) h2 (by omega)) ?_
  exact Ev.now _
theorem impl_plus_f (x y : S27) (hx : okF2 x) (hy : okF2 y) : Ev (fun k => impl_Fraction_plus.f k x.f0 x.f1 y.f0 y.f1) ((plusF x y).f0, (plusF x y).f1, fitF (plusF x y).f0 (plusF x y).f1) := by
  obtain ⟨_, h2, h3, h4, h5⟩ := num_t x y hx hy
  unfold impl_Fraction_plus.f
  rw [wrap_of (x.f0 * y.f1) (by omega) (by omega), wrap_of (y.f0 * x.f1) (by omega) (by omega), wrap_of (x.f0 * y.f1 + y.f0 * x.f1) (by omega) (by omega), wrap_of (x.f1 * y.f1) (by omega) (by omega)]
  refine Ev.bind (f := fun _ bt => some (bt.1, bt.2.1, bt.2.2)) (impl_red_f (x.f0 * y.f1 + y.f0 * x.f1) (x.f1 * y.f1) (by omega) h2 (by omega)) ?_
  exact Ev.now _
theorem redF_scale (g a b : Int) (hg : 0 < g) : redF (g * a) (g * b) = redF a b := by
  unfold redF
  have h1 : Int.gcd (g * a) (g * b) = g.natAbs * Int.gcd a b := Int.gcd_mul_left g a b
  have h2 : ((g.natAbs * Int.gcd a b : Nat) : Int) = g * (Int.gcd a b : Int) := by
    rw [Int.natCast_mul, show ((g.natAbs : Nat) : Int) = g by omega]
  rw [h1, h2, Int.mul_tdiv_mul_of_pos _ _ hg, Int.mul_tdiv_mul_of_pos _ _ hg]
theorem redF_zero (b : Int) (hb : 1 ≤ b) : redF 0 b = (0, 1) := by
  unfold redF
  have h : ((Int.gcd 0 b : Nat) : Int) = b := by rw [Int.gcd_zero_left]; omega
  rw [h, Int.zero_tdiv, Int.tdiv_self (by omega)]
/-- A term, if its value is not 0. -/
def oneT (w : ByteArray) (a : S27) : List S89 := if a.f0 = 0 then [] else [⟨w, a⟩]
theorem oneT_length (w : ByteArray) (a : S27) : (oneT w a).length ≤ 1 := by unfold oneT; split <;> simp
theorem spec_zero_f (a b : Int) : spec_l01Zero.f a b = some (decide (a = 0)) := by
  unfold spec_l01Zero.f
  by_cases h : a = 0 <;> simp [h]
theorem put_j1 (T1 T2 : List S89) (w : ByteArray) (a : S27) (h1 : T1.length ≤ 1000000) (h2 : T2.length ≤ 1000000) (hne : ∀ t ∈ T2.head?, t.f0.toList ≠ w.toList) :
    Ev (fun k => spec_l01Put.j1 k (T1 ++ T2) w (T1.length : Int) a.f0 a.f1) (T1 ++ oneT w a ++ T2, true) := by
  have hT : ((T1 ++ T2).length : Int) = (T1.length : Int) + (T2.length : Int) := by simp
  refine Ev.step (f := fun k => spec_l01Put.j2 k (T1 ++ T2) w (T1.length : Int) T1 false a.f0 a.f1) (fun k => ?_) ?_
  · rw [spec_l01Put.j1, Option.bind_some, if_pos (by omega), if_pos (by omega), Option.bind_some, Int.toNat_natCast, List.take_left, List.nil_append, if_pos (by simp; omega), Option.bind_some]
    by_cases hl : T2.length = 0
    · rw [if_neg (by omega)]
    · rw [if_pos (by omega)]
      obtain ⟨t, T3, rfl⟩ := List.exists_cons_of_ne_nil (List.length_pos_iff.1 (by omega : 0 < T2.length))
      have e : (rd_T89 (T1 ++ t :: T3) (T1.length : Int)).f0 = t.f0 := by simp [rd_T89]
      rw [e, show (t.f0.toList == w.toList) = false from beq_eq_false_iff_ne.2 (hne t rfl)]
  · refine Ev.step (f := fun _ => some (T1 ++ oneT w a ++ T2, true)) (fun k => ?_) (Ev.now _)
    rw [spec_l01Put.j2, if_neg (by simp), spec_zero_f, Option.bind_some]
    by_cases hz : a.f0 = 0
    · rw [if_pos (by simpa using hz), if_pos (by omega), if_pos (by omega), Option.bind_some, Int.toNat_natCast, List.drop_left, if_pos (by omega), oneT, if_pos hz, List.append_nil]
    · rw [if_neg (by simpa using hz), if_pos (by omega), Option.bind_some, if_pos (by omega), if_pos (by omega), Option.bind_some, Int.toNat_natCast, List.drop_left, if_pos (by simp; omega), oneT, if_neg hz]
theorem put_j1_eq (T1 T2 : List S89) (w : ByteArray) (a b : S27) (h1 : T1.length ≤ 1000000) (h2 : T2.length ≤ 1000000) (ha : okF2 a) (hb : okF2 b) :
    Ev (fun k => spec_l01Put.j1 k (T1 ++ ⟨w, b⟩ :: T2) w (T1.length : Int) a.f0 a.f1) (if fitF (plusF b a).f0 (plusF b a).f1 = true then (T1 ++ oneT w (plusF b a) ++ T2, true) else ([], false)) := by
  have hT : ((T1 ++ (⟨w, b⟩ : S89) :: T2).length : Int) = (T1.length : Int) + ((T2.length : Int) + 1) := by simp
  have e : rd_T89 (T1 ++ (⟨w, b⟩ : S89) :: T2) (T1.length : Int) = ⟨w, b⟩ := by simp [rd_T89]
  refine Ev.step (f := fun k => spec_l01Put.j2 k (T1 ++ ⟨w, b⟩ :: T2) w (T1.length : Int) T1 true a.f0 a.f1) (fun k => ?_) ?_
  · rw [spec_l01Put.j1, Option.bind_some, if_pos (by omega), if_pos (by omega), Option.bind_some, Int.toNat_natCast, List.take_left, List.nil_append, if_pos (by simp; omega), Option.bind_some, if_pos (by omega), e]
    simp
  · have hd : List.drop (T1.length + 1) (T1 ++ (⟨w, b⟩ : S89) :: T2) = T2 := by
      rw [List.drop_append]; simp
    refine Ev.step (f := fun k => (spec_l01Plus.f k b.f0 b.f1 a.f0 a.f1).bind fun bt => (if bt.2.2 = true then (if bt.1 = 0 then some (T1 ++ T2, true) else some (T1 ++ [(⟨w, ⟨bt.1, bt.2.1⟩⟩ : S89)] ++ T2, true)) else (some (([] : List S89), false)))) (fun k => ?_) ?_
    · rw [spec_l01Put.j2, if_pos rfl, if_pos (by omega), if_pos (by omega), e]
      dsimp only
      cases hp : spec_l01Plus.f k b.f0 b.f1 a.f0 a.f1 with
      | none => rfl
      | some bt =>
        refine Eq.trans (Option.bind_some _ _) (Eq.trans ?_ (Option.bind_some _ _).symm)
        by_cases hf : bt.2.2 = true
        · rw [if_pos hf, if_pos hf, spec_zero_f, Option.bind_some, wrap_nat _ (by omega)]
          by_cases hz : bt.1 = 0
          · rw [if_pos (by simpa using hz), if_pos (by omega), if_pos (by omega), Option.bind_some, Int.toNat_natCast, hd, if_pos (by omega), if_pos hz]
          · rw [if_neg (by simpa using hz), if_pos (by omega), Option.bind_some, if_pos (by omega), if_pos (by omega), Option.bind_some, Int.toNat_natCast, hd, if_pos (by simp; omega), if_neg hz]
        · rw [if_neg hf, if_neg hf]
    · refine Ev.bind (f := fun _ bt => (if bt.2.2 = true then (if bt.1 = 0 then some (T1 ++ T2, true) else some (T1 ++ [(⟨w, ⟨bt.1, bt.2.1⟩⟩ : S89)] ++ T2, true)) else (some (([] : List S89), false)))) (spec_plus_f b a hb ha) ?_
      by_cases hf : fitF (plusF b a).f0 (plusF b a).f1 = true
      · rw [if_pos hf, if_pos hf]
        refine Ev.congr (f := fun _ => some (T1 ++ oneT w (plusF b a) ++ T2, true)) (fun k => ?_) (Ev.now _)
        dsimp only
        rw [if_pos rfl]
        by_cases hz : (plusF b a).f0 = 0
        · rw [if_pos hz, oneT, if_pos hz, List.append_nil]
        · rw [if_neg hz, oneT, if_neg hz]
      · rw [if_neg hf, if_neg hf]
        exact Ev.congr (f := fun _ => some (([] : List S89), false)) (fun k => by dsimp only; rw [if_neg (by simp)]) (Ev.now _)
/-- The walk to the place. -/
theorem put_l0 (w : ByteArray) (x y : Int) {R : List S89 × Bool} (T1 T2 : List S89) (h1 : T1.length ≤ 1000000) (hb : ∀ t ∈ T1, befW t.f0 w = true) (hn : ∀ t ∈ T2.head?, befW t.f0 w = false)
    (h : Ev (fun k => spec_l01Put.j1 k (T1 ++ T2) w (T1.length : Int) x y) R) : ∀ e i, i + e = T1.length → Ev (fun k => spec_l01Put.l0 k (T1 ++ T2) w (i : Int) x y) R
  | 0, i, hi => by
    obtain rfl : i = T1.length := by omega
    refine Ev.step (fun k => ?_) h
    rw [spec_l01Put.l0]
    by_cases hl : T2.length = 0
    · rw [if_neg (by simp; omega)]
    · rw [if_pos (by simp; omega), if_pos (by omega), spec_before_f, Option.bind_some]
      obtain ⟨t, T3, rfl⟩ := List.exists_cons_of_ne_nil (List.length_pos_iff.1 (by omega : 0 < T2.length))
      have e : (rd_T89 (T1 ++ t :: T3) (T1.length : Int)).f0 = t.f0 := by simp [rd_T89]
      rw [e, if_neg (by rw [hn t rfl]; simp)]
  | e + 1, i, hi => by
    refine Ev.step (fun k => ?_) (put_l0 w x y T1 T2 h1 hb hn h e (i + 1) (by omega))
    have hlt : i < T1.length := by omega
    have e' : (rd_T89 (T1 ++ T2) (i : Int)).f0 = T1[i].f0 := by simp [rd_T89, List.getElem?_append, hlt]
    rw [spec_l01Put.l0, if_pos (by simp; omega), if_pos (by omega), spec_before_f, Option.bind_some, e', if_pos (hb _ (List.getElem_mem hlt)), wrap_nat _ (by omega)]
theorem put_new (T1 T2 : List S89) (w : ByteArray) (a : S27) (h1 : T1.length ≤ 1000000) (h2 : T2.length ≤ 1000000) (hb : ∀ t ∈ T1, befW t.f0 w = true) (hn : ∀ t ∈ T2, befW t.f0 w = false ∧ t.f0.toList ≠ w.toList) :
    Ev (fun k => spec_l01Put.f k (T1 ++ T2) w a.f0 a.f1) (T1 ++ oneT w a ++ T2, true) :=
  put_l0 w a.f0 a.f1 T1 T2 h1 hb (fun t ht => (hn t (List.mem_of_mem_head? ht)).1) (put_j1 T1 T2 w a h1 h2 (fun t ht => (hn t (List.mem_of_mem_head? ht)).2)) T1.length 0 (by omega)
theorem put_old (T1 T2 : List S89) (w : ByteArray) (a b : S27) (h1 : T1.length ≤ 1000000) (h2 : T2.length ≤ 1000000) (hb : ∀ t ∈ T1, befW t.f0 w = true) (hw : befW w w = false) (ha : okF2 a) (hb2 : okF2 b) :
    Ev (fun k => spec_l01Put.f k (T1 ++ ⟨w, b⟩ :: T2) w a.f0 a.f1) (if fitF (plusF b a).f0 (plusF b a).f1 = true then (T1 ++ oneT w (plusF b a) ++ T2, true) else ([], false)) :=
  put_l0 w a.f0 a.f1 T1 (⟨w, b⟩ :: T2) h1 hb (fun t ht => by simp at ht; rw [← ht]; exact hw) (put_j1_eq T1 T2 w a b h1 h2 ha hb2) T1.length 0 (by omega)
def okW (d : Nat) (s : ByteArray) : Prop := ∀ i : Nat, i < s.size → 48 ≤ bt s i ∧ bt s i < 48 + (d : Int)

def wbyte (c : Nat) : ByteArray := strOfNums [48 + (c : Int)]
theorem wbyte_size (c : Nat) : (wbyte c).size = 1 := by simp [wbyte, strOfNums, ByteArray.size]
/-- A word with each letter behind it. -/
def extFrom (w : ByteArray) : Nat → Nat → List ByteArray
  | 0, _ => []
  | e + 1, c => (w ++ wbyte c) :: extFrom w e (c + 1)
theorem extFrom_length (w : ByteArray) : ∀ e c, (extFrom w e c).length = e := by
  intro e
  induction e with
  | zero => intro c; rfl
  | succ e ih => intro c; simp [extFrom, ih]
def nextW (d : Nat) (l : List ByteArray) : List ByteArray := l.flatMap fun w => extFrom w d 0
theorem nextW_length (d : Nat) (l : List ByteArray) : (nextW d l).length = l.length * d := by
  induction l with
  | nil => simp [nextW]
  | cons a l ih =>
    simp only [nextW, List.flatMap_cons, List.length_append, extFrom_length, List.length_cons] at ih ⊢
    rw [ih, Nat.succ_mul]; omega
def wordsN (d : Nat) : Nat → List ByteArray
  | 0 => [⟨#[]⟩]
  | n + 1 => nextW d (wordsN d n)
theorem wordsN_length (d : Nat) (hd : d ≤ 3) : ∀ n, (wordsN d n).length ≤ 3 ^ n := by
  intro n
  induction n with
  | zero => simp [wordsN]
  | succ n ih =>
    rw [wordsN, nextW_length, Nat.pow_succ]
    exact Nat.mul_le_mul ih hd
theorem wordsN_small (d : Nat) (hd : d ≤ 3) (n : Nat) (hn : n ≤ 5) : (wordsN d n).length ≤ 243 :=
  Nat.le_trans (wordsN_length d hd n) (Nat.le_trans (Nat.pow_le_pow_right (by omega) hn) (by decide))
theorem size_app (s t : ByteArray) : (s ++ t).size = s.size + t.size := by simp
theorem extFrom_size (w x : ByteArray) : ∀ e c, x ∈ extFrom w e c → x.size = w.size + 1 := by
  intro e
  induction e with
  | zero => intro c h; cases h
  | succ e ih =>
    intro c h
    rcases List.mem_cons.1 h with h | h
    · rw [h, size_app, wbyte_size]
    · exact ih (c + 1) h
theorem wordsN_size (d : Nat) : ∀ n, ∀ x ∈ wordsN d n, x.size = n := by
  intro n
  induction n with
  | zero => intro x hx; simp [wordsN] at hx; subst hx; rfl
  | succ n ih =>
    intro x hx
    simp only [wordsN, nextW, List.mem_flatMap] at hx
    obtain ⟨w, hw, hx⟩ := hx
    rw [extFrom_size w x d 0 hx, ih w hw]
theorem rdOf_nat (l : List ByteArray) (i : Nat) (h : i < l.length) : rdOf ByteArray.empty l (i : Int) = l[i] := by simp [rdOf, List.getD_eq_getElem?_getD, h]
theorem impl_words_l2 (d : Nat) (hd : d ≤ 3) (w : ByteArray) (hw : w.size ≤ 100) (x11 x12 : Int) (x14 : List ByteArray) (x15 x16 : Int) : ∀ e k c (x6 : List ByteArray), c + e = d → x6.length + e ≤ 1000000 →
    impl_words.l2 (k + e + 1) (d : Int) x6 w x11 x12 x14 x15 x16 (d : Int) (c : Int) = impl_words.l1 k (d : Int) (x6 ++ extFrom w e c) x11 x12 x14 x15 (wrap64 (x16 + 1)) := by
  intro e
  induction e with
  | zero =>
    intro k c x6 h hx
    rw [show k + 0 + 1 = k + 1 from rfl, impl_words.l2, if_neg (by omega), extFrom, List.append_nil]
  | succ e ih =>
    intro k c x6 h hx
    have hc : strOfNums [(48 + ((c : Int) % 256)) % 256] = wbyte c := by unfold wbyte; congr 2; omega
    rw [show k + (e + 1) + 1 = (k + e + 1) + 1 from by omega, impl_words.l2, if_pos (by omega), impl_letter.f, Option.bind_some, hc, wbyte_size, if_pos (by omega), if_pos (by omega), wrap_nat _ (by omega), ih k (c + 1) _ (by omega) (by rw [List.length_append]; simp; omega), extFrom, List.append_assoc]
    rfl
theorem impl_words_l1 (d : Nat) (hd : d ≤ 3) (x11 x12 : Int) (l : List ByteArray) (hl : l.length ≤ 1000) (hs : ∀ w ∈ l, w.size ≤ 100) : ∀ e k i (x6 : List ByteArray), i + e = l.length → x6.length + e * 3 ≤ 100000 →
    impl_words.l1 (k + e * (d + 2) + 1) (d : Int) x6 x11 x12 l (l.length : Int) (i : Int) = impl_words.l0 k (d : Int) (x6 ++ nextW d (l.drop i)) x11 (wrap64 (x12 + 1)) := by
  intro e
  induction e with
  | zero =>
    intro k i x6 h hx
    rw [show k + 0 * (d + 2) + 1 = k + 1 from by omega, impl_words.l1, if_neg (by omega), List.drop_of_length_le (by omega), nextW, List.flatMap_nil, List.append_nil]
  | succ e ih =>
    intro k i x6 h hx
    have hi : i < l.length := by omega
    rw [show k + (e + 1) * (d + 2) + 1 = ((k + e * (d + 2) + 1) + d + 1) + 1 from by rw [Nat.succ_mul]; omega, impl_words.l1, if_pos (by omega), if_pos (by omega), if_pos (by omega), rdOf_nat l i hi]
    have := impl_words_l2 d hd l[i] (hs _ (List.getElem_mem hi)) x11 x12 l (l.length : Int) (i : Int) d (k + e * (d + 2) + 1) 0 x6 (by omega) (by omega)
    rw [show impl_words.l2 ((k + e * (d + 2) + 1) + d + 1) (d : Int) x6 l[i] x11 x12 l (l.length : Int) (i : Int) (d : Int) 0 = _ from this, wrap_nat _ (by omega), ih k (i + 1) _ (by omega) (by rw [List.length_append, extFrom_length]; omega), List.drop_eq_getElem_cons hi, nextW, nextW, List.flatMap_cons, List.append_assoc]
set_option maxRecDepth 20000 in
theorem fuel_step (e q P : Nat) (h1 : (e + 1) * 2000 + 1 ≤ (q + P + 1) + 1) (h2 : P ≤ 1215) : e * 2000 + 1 ≤ q := by
  have : (e + 1) * 2000 = e * 2000 + 2000 := Nat.succ_mul e 2000
  omega
theorem impl_words_l0 (d : Nat) (hd : d ≤ 3) (n : Nat) (hn : n ≤ 5) : ∀ e k m, m + e = n → e * 2000 + 1 ≤ k →
    impl_words.l0 k (d : Int) (wordsN d m) (n : Int) (m : Int) = some (wordsN d n) := by
  intro e
  induction e with
  | zero =>
    intro k m h hk
    obtain ⟨k, rfl⟩ : ∃ q, k = q + 1 := ⟨k - 1, by omega⟩
    obtain rfl : m = n := by omega
    rw [impl_words.l0, if_neg (by omega)]
  | succ e ih =>
    intro k m h hk
    have hs := wordsN_small d hd m (by omega)
    have hb : (wordsN d m).length * (d + 2) ≤ 243 * 5 := Nat.mul_le_mul hs (by omega)
    obtain ⟨k, rfl⟩ : ∃ q, k = (q + (wordsN d m).length * (d + 2) + 1) + 1 := ⟨k - (wordsN d m).length * (d + 2) - 2, by omega⟩
    have hk2 : e * 2000 + 1 ≤ k := fuel_step e k _ hk (Nat.le_trans hb (by decide))
    rw [impl_words.l0, if_pos (by omega)]
    have := impl_words_l1 d hd (n : Int) (m : Int) (wordsN d m) (by omega) (fun w hw => by rw [wordsN_size d m w hw]; omega) (wordsN d m).length k 0 [] (by omega) (by simp; omega)
    rw [show impl_words.l1 (k + (wordsN d m).length * (d + 2) + 1) (d : Int) [] (n : Int) (m : Int) (wordsN d m) ((wordsN d m).length : Int) 0 = _ from this, wrap_nat _ (by omega), List.drop_zero, List.nil_append]
    exact ih k (m + 1) (by omega) hk2
theorem impl_words_f (k d n : Nat) (hd : d ≤ 3) (hn : n ≤ 5) (hk : 20000 ≤ k) : impl_words.f k (d : Int) (n : Int) = some (wordsN d n) :=
  impl_words_l0 d hd n hn n k 0 (by omega) (by omega)
theorem bt_left (s t : ByteArray) (i : Nat) (h : i < s.size) : bt (s ++ t) (i : Int) = bt s i := by
  unfold bt
  rw [dif_pos (by rw [size_app]; simp; omega), dif_pos (by simpa using h)]
  simp [ByteArray.getElem_append_left, h]
theorem bt_right (s : ByteArray) (c : Nat) (hc : c < 200) : bt (s ++ wbyte c) ((s.size : Nat) : Int) = 48 + c := by
  unfold bt
  rw [dif_pos (by rw [size_app, wbyte_size]; simp)]
  have : ((s ++ wbyte c)[((s.size : Nat) : Int).toNat]'(by rw [size_app, wbyte_size]; simp)) = UInt8.ofNat (48 + c) := by
    simp only [Int.toNat_natCast]
    rw [ByteArray.getElem_append_right (Nat.le_refl _)]
    have hc2 : (48 + (c : Int)).toNat = 48 + c := by omega
    simp only [wbyte, strOfNums, List.map_cons, List.map_nil, hc2, Nat.sub_self]
    rfl
  rw [this]
  simp only [UInt8.toNat_ofNat']
  omega
theorem extFrom_ok (d : Nat) (hd : d ≤ 3) (w x : ByteArray) (hw : okW d w) : ∀ e c, c + e = d → x ∈ extFrom w e c → okW d x := by
  intro e
  induction e with
  | zero => intro c _ h; cases h
  | succ e ih =>
    intro c hc h
    rcases List.mem_cons.1 h with h | h
    · subst h
      intro i hi
      rw [size_app, wbyte_size] at hi
      by_cases e1 : i < w.size
      · rw [bt_left w _ i e1]; exact hw i e1
      · obtain rfl : i = w.size := by omega
        rw [bt_right w c (by omega)]; omega
    · exact ih (c + 1) (by omega) h
theorem wordsN_ok (d : Nat) (hd : d ≤ 3) : ∀ n, ∀ x ∈ wordsN d n, okW d x := by
  intro n
  induction n with
  | zero => intro x hx i hi; simp [wordsN] at hx; subst hx; exact absurd hi (by simp [ByteArray.size])
  | succ n ih =>
    intro x hx
    simp only [wordsN, nextW, List.mem_flatMap] at hx
    obtain ⟨w, hw, hx⟩ := hx
    exact extFrom_ok d hd w x (ih w hw) d 0 (by omega) hx

/-- All words of at most n letters. -/
def allW (d : Nat) : Nat → Nat → List ByteArray
  | 0, _ => []
  | e + 1, m => wordsN d m ++ allW d e (m + 1)
theorem impl_allWords_l0 (d : Nat) (hd : d ≤ 3) (n : Nat) (hn : n ≤ 5) : ∀ e k m (x5 : List ByteArray), m + e = n + 1 → e + 20001 ≤ k → x5.length + e * 243 ≤ 100000 →
    impl_allWords.l0 k (d : Int) x5 ((n + 1 : Nat) : Int) (m : Int) = some (x5 ++ allW d e m) := by
  intro e
  induction e with
  | zero =>
    intro k m x5 h hk hx
    obtain ⟨k, rfl⟩ : ∃ q, k = q + 1 := ⟨k - 1, by omega⟩
    rw [impl_allWords.l0, if_neg (by omega), allW, List.append_nil]
  | succ e ih =>
    intro k m x5 h hk hx
    obtain ⟨k, rfl⟩ : ∃ q, k = q + 1 := ⟨k - 1, by omega⟩
    have hs := wordsN_small d hd m (by omega)
    rw [impl_allWords.l0, if_pos (by omega), impl_words_f k d m hd (by omega) (by omega), Option.bind_some, if_pos (by omega), wrap_nat _ (by omega), ih k (m + 1) _ (by omega) (by omega) (by rw [List.length_append]; omega), allW, List.append_assoc]
theorem impl_allWords_f (k d n : Nat) (hd : d ≤ 3) (hn : n ≤ 5) (hk : 30000 ≤ k) : impl_allWords.f k (d : Int) (n : Int) = some (allW d (n + 1) 0) := by
  unfold impl_allWords.f
  rw [wrap_nat _ (by omega)]
  have := impl_allWords_l0 d hd n hn (n + 1) k 0 [] (by omega) (by omega) (by simp; omega)
  rwa [List.nil_append] at this

/-- A number of letters, and a level for them. -/
def lvlOk (d n : Int) : Bool := (decide (1 ≤ d) && decide (d ≤ 3)) && ((decide (1 ≤ n) && decide (n ≤ 5)) && (decide (d < 3) || decide (n < 5)))
theorem lvlOk_bounds {d n : Int} (h : lvlOk d n = true) : 1 ≤ d ∧ d ≤ 3 ∧ 1 ≤ n ∧ n ≤ 5 := by
  unfold lvlOk at h
  simp only [Bool.and_eq_true, decide_eq_true_eq] at h
  omega
theorem impl_areLetters_f (d : Int) : impl_areLetters.f d = some (decide (1 ≤ d) && decide (d ≤ 3)) := by
  unfold impl_areLetters.f
  rw [impl_within_f, Option.bind_some]
theorem impl_isLevel_f (d n : Int) : impl_isLevel.f d n = some (lvlOk d n) := by
  unfold impl_isLevel.f lvlOk
  rw [impl_areLetters_f, impl_within_f]
  simp only [Option.bind_some]
  cases decide (1 ≤ d) && decide (d ≤ 3) with
  | false => rfl
  | true =>
    cases decide (1 ≤ n) && decide (n ≤ 5) with
    | false => rfl
    | true =>
      by_cases h : d < 3
      · simp [h]
      · simp [h]
theorem spec_sizes_f (d n : Int) : spec_l01Sizes.f d n = some (lvlOk d n) := by
  unfold spec_l01Sizes.f lvlOk
  rw [spec_in_f, spec_in_f]
  simp only [Option.bind_some]
  cases decide (1 ≤ d) && decide (d ≤ 3) with
  | false => rfl
  | true =>
    cases decide (1 ≤ n) && decide (n ≤ 5) with
    | false => rfl
    | true =>
      by_cases h : d < 3
      · simp [h]
      · simp [h]; omega
theorem less_irr : ∀ a : List UInt8, Op.bytesLess a a = false
 | [] => rfl
 | a :: x => by unfold Op.bytesLess; simp [less_irr x]
theorem less_asym : ∀ a b : List UInt8, Op.bytesLess a b = true → Op.bytesLess b a = false
 | _, [], h => by simp [Op.bytesLess] at h
 | [], _ :: _, _ => rfl
 | a :: x, b :: y, h => by
  unfold Op.bytesLess at h ⊢
  by_cases h1 : a < b
  ·have h2 : ¬ b < a := UInt8.not_lt.2 (UInt8.le_of_lt h1)
   have h3 : ¬ b = a := fun e => by subst e; exact h2 h1
   simp [h2, h3]
  ·by_cases h3 : a = b
   ·subst h3
    have hx : Op.bytesLess x y = true := by simpa [h1] using h
    simp [less_asym x y hx]
   ·simp [h1, h3] at h
theorem less_append : ∀ a b s t : List UInt8, a.length = b.length → Op.bytesLess a b = true → Op.bytesLess (a ++ s) (b ++ t) = true
 | [], [], _, _, _, h => by simp [Op.bytesLess] at h
 | [], _ :: _, _, _, h, _ => by simp at h
 | _ :: _, [], _, _, h, _ => by simp at h
 | a :: x, b :: y, s, t, hl, h => by
  rw [List.cons_append, List.cons_append]
  unfold Op.bytesLess at h ⊢
  by_cases h1 : a < b
  ·simp [h1]
  ·by_cases h3 : a = b
   ·subst h3
    have hx : Op.bytesLess x y = true := by simpa [h1] using h
    simp [less_append x y s t (by simpa using hl) hx]
   ·simp [h1, h3] at h
theorem less_same : ∀ a s t : List UInt8, Op.bytesLess (a ++ s) (a ++ t) = Op.bytesLess s t
 | [], _, _ => rfl
 | a :: x, s, t => by
  rw [List.cons_append, List.cons_append]
  conv => lhs; unfold Op.bytesLess
  simp [less_same x s t]
theorem bef_irr (v : ByteArray) : befW v v = false := by unfold befW; rw [if_pos rfl]; exact less_irr _
theorem bef_asym (v w : ByteArray) (h : befW v w = true) : befW w v = false ∧ w.toList ≠ v.toList := by
 unfold befW at h ⊢
 by_cases e : v.size = w.size
 ·rw [if_pos e] at h
  rw [if_pos e.symm]
  exact ⟨less_asym _ _ h, fun e2 => by rw [e2, less_irr] at h; cases h⟩
 ·rw [if_neg e] at h
  have h := of_decide_eq_true h
  rw [if_neg (Ne.symm e)]
  refine ⟨decide_eq_false (by omega), fun e2 => e ?_⟩
  have := congrArg List.length e2
  simp [ByteArray.toList_eq] at this
  exact this.symm
theorem app_toList (v w : ByteArray) : (v ++ w).toList = v.toList ++ w.toList := by simp [ByteArray.toList_eq]
theorem bef_app (v w s t : ByteArray) (e : v.size = w.size) (e2 : s.size = t.size) (h : befW v w = true) : befW (v ++ s) (w ++ t) = true := by
 unfold befW at h ⊢
 rw [if_pos e] at h
 rw [if_pos (by simp; omega), app_toList, app_toList]
 exact less_append _ _ _ _ (by simpa [ByteArray.toList_eq] using e) h
theorem bef_wbyte (v : ByteArray) (c c' : Nat) (h : c < c') (h' : c' < 200) : befW (v ++ wbyte c) (v ++ wbyte c') = true := by
 unfold befW
 rw [if_pos (by simp [wbyte_size]), app_toList, app_toList, less_same]
 have e : ∀ c : Nat, (wbyte c).toList = [UInt8.ofNat (48 + c)] := fun c => by
  have hc2 : (48 + (c : Int)).toNat = 48 + c := by omega
  simp [wbyte, strOfNums, ByteArray.toList_eq, hc2]
 rw [e, e]
 have hlt : UInt8.ofNat (48 + c) < UInt8.ofNat (48 + c') := by
  rw [UInt8.lt_iff_toNat_lt, UInt8.toNat_ofNat', UInt8.toNat_ofNat']
  omega
 unfold Op.bytesLess
 simp only [hlt, decide_true, Bool.true_or]
theorem extFrom_mem (w x : ByteArray) : ∀ e c, x ∈ extFrom w e c → ∃ c', c ≤ c' ∧ c' < c + e ∧ x = w ++ wbyte c'
 | 0, c, h => by cases h
 | e + 1, c, h => by
  rcases List.mem_cons.1 h with h | h
  ·exact ⟨c, by omega, by omega, h⟩
  ·obtain ⟨c', h1, h2, h3⟩ := extFrom_mem w x e (c + 1) h
   exact ⟨c', by omega, by omega, h3⟩
theorem extFrom_asc (w : ByteArray) : ∀ e c, c + e ≤ 100 → (extFrom w e c).Pairwise (fun v w => befW v w = true)
 | 0, c, _ => List.Pairwise.nil
 | e + 1, c, h => by
  refine List.Pairwise.cons (fun x hx => ?_) (extFrom_asc w e (c + 1) (by omega))
  obtain ⟨c', h1, h2, rfl⟩ := extFrom_mem w x e (c + 1) hx
  exact bef_wbyte w c c' (by omega) (by omega)
theorem wordsN_asc (d : Nat) (hd : d ≤ 3) : ∀ n, (wordsN d n).Pairwise (fun v w => befW v w = true)
 | 0 => by simp [wordsN]
 | n + 1 => by
  rw [wordsN, nextW, List.pairwise_flatMap]
  refine ⟨fun a _ => extFrom_asc a d 0 (by omega), ?_⟩
  refine (List.Pairwise.and_mem.1 (wordsN_asc d hd n)).imp (fun {a b} h x hx y hy => ?_)
  obtain ⟨c, _, _, rfl⟩ := extFrom_mem a x d 0 hx
  obtain ⟨c', _, _, rfl⟩ := extFrom_mem b y d 0 hy
  exact bef_app a b _ _ (by rw [wordsN_size d n a h.1, wordsN_size d n b h.2.1]) (by rw [wbyte_size, wbyte_size]) h.2.2
theorem allW_mem (D : Nat) (w : ByteArray) : ∀ e m, w ∈ allW D e m → ∃ q, m ≤ q ∧ q < m + e ∧ w ∈ wordsN D q
 | 0, m, h => by cases h
 | e + 1, m, h => by
  rw [allW, List.mem_append] at h
  rcases h with h | h
  ·exact ⟨m, by omega, by omega, h⟩
  ·obtain ⟨q, hq, hq2, hw⟩ := allW_mem D w e (m + 1) h
   exact ⟨q, by omega, by omega, hw⟩
theorem allW_asc (d : Nat) (hd : d ≤ 3) : ∀ e m, (allW d e m).Pairwise (fun v w => befW v w = true)
 | 0, m => List.Pairwise.nil
 | e + 1, m => by
  rw [allW, List.pairwise_append]
  refine ⟨wordsN_asc d hd m, allW_asc d hd e (m + 1), fun a ha b hb => ?_⟩
  obtain ⟨q, h1, _, hb⟩ := allW_mem d b e (m + 1) hb
  unfold befW
  rw [wordsN_size d m a ha, wordsN_size d q b hb, if_neg (by omega)]
  exact decide_eq_true (by omega)
theorem wordsN_pow (D : Nat) : ∀ n, (wordsN D n).length = D ^ n
 | 0 => by simp [wordsN]
 | n + 1 => by rw [wordsN, nextW_length, wordsN_pow D n, Nat.pow_succ]
theorem allW_length (D N : Nat) (h : lvlOk (D : Int) (N : Int) = true) : 1 ≤ (allW D (N + 1) 0).length ∧ (allW D (N + 1) 0).length ≤ 1000 := by
 have hb := lvlOk_bounds h
 have hD : D = 1 ∨ D = 2 ∨ D = 3 := by omega
 have hN : N = 1 ∨ N = 2 ∨ N = 3 ∨ N = 4 ∨ N = 5 := by omega
 rcases hD with rfl | rfl | rfl <;> rcases hN with rfl | rfl | rfl | rfl | rfl <;> first | (exact absurd h (by decide)) | (simp [allW, wordsN_pow])
/-- How many words are shorter, and a word's number among those of its length. -/
def hdN (d : Nat) : Nat → Nat
 | 0 => 0
 | q + 1 => hdN d q + d ^ q
def valN (d : Nat) (w : ByteArray) : Nat → Nat
 | 0 => 0
 | i + 1 => valN d w i * d + (bt w i - 48).toNat
theorem valN_app (d : Nat) (w x : ByteArray) : ∀ i, i ≤ w.size → valN d (w ++ x) i = valN d w i
 | 0, _ => rfl
 | i + 1, h => by rw [valN, valN, valN_app d w x i (by omega), bt_left w x i (by omega)]
theorem extFrom_get (w : ByteArray) : ∀ e b c, c < e → (extFrom w e b)[c]? = some (w ++ wbyte (b + c))
 | e + 1, b, 0, _ => rfl
 | e + 1, b, c + 1, h => by
  rw [extFrom, List.getElem?_cons_succ, extFrom_get w e (b + 1) c (by omega)]
  congr 3
  omega
theorem nextW_get (d : Nat) : ∀ (l : List ByteArray) (i c : Nat), c < d → i < l.length → (nextW d l)[i * d + c]? = (l[i]?).map (fun w => w ++ wbyte c)
 | a :: l, 0, c, hc, _ => by
  rw [nextW, List.flatMap_cons, List.getElem?_append_left (by rw [extFrom_length]; omega), Nat.zero_mul, Nat.zero_add, extFrom_get a d 0 c hc]
  simp
 | a :: l, i + 1, c, hc, h => by
  rw [nextW, List.flatMap_cons, List.getElem?_append_right (by rw [extFrom_length, Nat.succ_mul]; omega), extFrom_length, List.getElem?_cons_succ, ← nextW_get d l i c hc (by simpa using h)]
  congr 1
  rw [Nat.succ_mul]; omega
theorem valN_get (d : Nat) (hd : d ≤ 3) (h0 : 1 ≤ d) : ∀ n i w, (wordsN d n)[i]? = some w → valN d w n = i
 | 0, i, w, h => by
  have hi : i < (wordsN d 0).length := (List.getElem?_eq_some_iff.1 h).1
  simp [wordsN] at hi
  rw [hi]; rfl
 | n + 1, i, w, h => by
  have hi : i < (wordsN d (n + 1)).length := (List.getElem?_eq_some_iff.1 h).1
  rw [wordsN, nextW_length] at hi
  have hdm : i = i / d * d + i % d := by rw [Nat.mul_comm]; exact (Nat.div_add_mod i d).symm
  have hq : i / d < (wordsN d n).length := Nat.div_lt_of_lt_mul (by rw [Nat.mul_comm]; exact hi)
  have hr : i % d < d := Nat.mod_lt _ (by omega)
  rw [wordsN, hdm, nextW_get d _ _ _ hr hq] at h
  obtain ⟨u, hu, rfl⟩ := Option.map_eq_some_iff.1 h
  have hs := wordsN_size d n u (List.mem_of_getElem? hu)
  rw [valN, ← hs, valN_app d u _ _ (Nat.le_refl _), bt_right u _ (by omega), hs, valN_get d hd h0 n _ u hu]
  omega
theorem allW_get (d : Nat) : ∀ e m q j, q < e → j < (wordsN d (m + q)).length → (allW d e m)[(hdN d (m + q) - hdN d m) + j]? = (wordsN d (m + q))[j]?
 | e + 1, m, 0, j, _, hj => by
  simp only [allW, Nat.add_zero, Nat.sub_self, Nat.zero_add] at hj ⊢
  exact List.getElem?_append_left hj
 | e + 1, m, q + 1, j, hq, hj => by
  have ih := allW_get d e (m + 1) q j (by omega) (by rw [show m + 1 + q = m + (q + 1) from by omega]; exact hj)
  rw [show m + 1 + q = m + (q + 1) from by omega] at ih
  have hm : ∀ q, hdN d (m + 1) ≤ hdN d (m + 1 + q) := fun q => by
   induction q with
   | zero => exact Nat.le_refl _
   | succ q ih => exact Nat.le_trans ih (Nat.le_add_right _ _)
  have hm := hm q
  rw [show m + 1 + q = m + (q + 1) from by omega, hdN] at hm
  rw [allW, List.getElem?_append_right (by rw [wordsN_pow]; omega), wordsN_pow, ← ih]
  congr 1
  rw [hdN]
  omega
theorem pow_small (d : Nat) (hd : d ≤ 3) : ∀ q, q ≤ 5 → d ^ q ≤ 243 := fun q hq => Nat.le_trans (Nat.pow_le_pow_left hd q) (Nat.le_trans (Nat.pow_le_pow_right (by omega) hq) (by decide))
theorem hdN_small (d : Nat) (hd : d ≤ 3) : ∀ q, q ≤ 6 → hdN d q ≤ q * 243
 | 0, _ => by simp [hdN]
 | q + 1, h => by
  have := hdN_small d hd q (by omega)
  have := pow_small d hd q (by omega)
  rw [hdN, Nat.succ_mul]; omega
theorem valN_small (d : Nat) (hd : d ≤ 3) (w : ByteArray) (hw : okW d w) : ∀ i, i ≤ w.size → valN d w i + 1 ≤ 4 ^ i
 | 0, _ => by simp [valN]
 | i + 1, h => by
  have ih := valN_small d hd w hw i (by omega)
  have hb := hw i (by omega)
  rw [valN, Nat.pow_succ]
  have h3 : valN d w i * d ≤ valN d w i * 3 := Nat.mul_le_mul_left _ hd
  omega
theorem number_step (k d h v m i : Nat) (w : ByteArray) (hi : i < w.size) (hs : w.size ≤ 5) (hb : 48 ≤ bt w i ∧ bt w i < 48 + (d : Int)) (hd : d ≤ 3) (h1 : h ≤ 10000) (h2 : v ≤ 10000) (h3 : m ≤ 10000) :
 impl_number.l0 (k + 1) (d : Int) w (h : Int) (v : Int) (m : Int) (w.size : Int) (i : Int) = impl_number.l0 k (d : Int) w ((h + m : Nat) : Int) ((v * d + (bt w i - 48).toNat : Nat) : Int) ((m * d : Nat) : Int) (w.size : Int) ((i + 1 : Nat) : Int) := by
 have h5 : v * d ≤ v * 3 := Nat.mul_le_mul_left _ hd
 have h6 : m * d ≤ m * 3 := Nat.mul_le_mul_left _ hd
 rw [impl_number.l0, if_pos (by omega), if_pos (by omega), if_pos (by omega), ← Int.natCast_mul, ← Int.natCast_mul]
 generalize v * d = vd at h5 ⊢
 generalize m * d = md at h6 ⊢
 rw [wrap_of ((h : Int) + (m : Int)) (by omega) (by omega), wrap_of (vd : Int) (by omega) (by omega), wrap_of (md : Int) (by omega) (by omega), wrap_of ((vd : Int) + (bt w i - 48) % 256) (by omega) (by omega), wrap_nat _ (by omega)]
 congr 1
 ·omega
theorem number_l0 (d : Nat) (hd : d ≤ 3) (w : ByteArray) (hw : okW d w) (hs : w.size ≤ 5) : ∀ e i k, i + e = w.size → e < k →
 impl_number.l0 k (d : Int) w (hdN d i : Int) (valN d w i : Int) ((d ^ i : Nat) : Int) (w.size : Int) (i : Int) = some ((hdN d w.size + valN d w w.size : Nat) : Int) := by
 intro e
 induction e with
 | zero =>
  intro i k hi hk
  obtain ⟨k, rfl⟩ : ∃ m, k = m + 1 := ⟨k - 1, by omega⟩
  obtain rfl : i = w.size := by omega
  have h1 := hdN_small d hd w.size (by omega)
  have h2 := valN_small d hd w hw w.size (Nat.le_refl _)
  have h3 : 4 ^ w.size ≤ 1024 := Nat.le_trans (Nat.pow_le_pow_right (by omega) hs) (by decide)
  generalize hdN d w.size = H at h1 ⊢
  generalize valN d w w.size = V at h2 ⊢
  rw [impl_number.l0, if_neg (by omega), wrap_of _ (by omega) (by omega)]
  simp
 | succ e ih =>
  intro i k hi hk
  obtain ⟨k, rfl⟩ : ∃ m, k = m + 1 := ⟨k - 1, by omega⟩
  have h1 := hdN_small d hd i (by omega)
  have h2 := valN_small d hd w hw i (by omega)
  have h3 : 4 ^ i ≤ 1024 := Nat.le_trans (Nat.pow_le_pow_right (by omega) (by omega : i ≤ 5)) (by decide)
  have h4 := pow_small d hd i (by omega)
  have hr := ih (i + 1) k (by omega) (by omega)
  rw [hdN, valN, Nat.pow_succ] at hr
  exact (number_step k d _ _ _ i w (by omega) hs (hw i (by omega)) hd (by omega) (by omega) (by omega)).trans hr
theorem number_word (D N q : Nat) (hl : lvlOk (D : Int) (N : Int) = true) (hq : q ≤ N) (v : ByteArray) (hv : v ∈ wordsN D q) :
 ∃ n, n < (allW D (N + 1) 0).length ∧ (allW D (N + 1) 0)[n]? = some v ∧ Ev (fun k => impl_number.f k (D : Int) v) (n : Int) := by
 have hb := lvlOk_bounds hl
 obtain ⟨j, hj⟩ := List.getElem?_of_mem hv
 have hjl := (List.getElem?_eq_some_iff.1 hj).1
 have hs := wordsN_size D q v hv
 have hg := allW_get D (N + 1) 0 q j (by omega) (by rwa [Nat.zero_add])
 rw [Nat.zero_add, hj] at hg
 have hg : (allW D (N + 1) 0)[hdN D q + j]? = some v := hg
 have hval := valN_get D (by omega) (by omega) q j v hj
 refine ⟨hdN D q + j, (List.getElem?_eq_some_iff.1 hg).1, hg, ⟨10, fun k hk => ?_⟩⟩
 have := number_l0 D (by omega) v (wordsN_ok D (by omega) q v hv) (by omega) v.size 0 k (by omega) (by omega)
 rw [hs, hval] at this
 unfold impl_number.f
 rw [hs]
 exact this
/-- All bytes are letters. -/
def isWd (d : Int) (s : ByteArray) : Nat → Nat → Bool
 | 0, _ => true
 | n + 1, i => (decide (48 ≤ bt s i) && decide (bt s i < 48 + d)) && isWd d s n (i + 1)
theorem spec_word_l0 (d : Int) (hd : 1 ≤ d) (hd3 : d ≤ 3) (s : ByteArray) (hs : s.size ≤ 1048576) : ∀ n k i, i + n = s.size → n < k → spec_l01Word.l0 k d s (i : Int) = some (isWd d s n i) := by
 intro n
 induction n with
 | zero =>
  intro k i h hk
  obtain ⟨k, rfl⟩ : ∃ m, k = m + 1 := ⟨k - 1, by omega⟩
  rw [spec_l01Word.l0, if_neg (by omega)]; rfl
 | succ n ih =>
  intro k i h hk
  obtain ⟨k, rfl⟩ : ∃ m, k = m + 1 := ⟨k - 1, by omega⟩
  have hb := bt_range s i
  rw [spec_l01Word.l0, if_pos (by omega), if_pos (by omega), wrap_nat _ (by omega), ih k (i + 1) (by omega) (by omega), isWd]
  by_cases h1 : bt s i < 48
  ·rw [if_pos h1, decide_eq_false (by omega : ¬ 48 ≤ bt s i)]; rfl
  ·rw [if_neg h1, decide_eq_true (by omega : 48 ≤ bt s i)]
   by_cases h2 : (bt s i - 48) % 256 ≥ d
   ·rw [if_pos h2, decide_eq_false (by omega : ¬ bt s i < 48 + d)]; rfl
   ·rw [if_neg h2, decide_eq_true (by omega : bt s i < 48 + d)]; simp
theorem impl_word_l0 (d : Int) (hd : 1 ≤ d) (hd3 : d ≤ 3) (s : ByteArray) (hs : s.size ≤ 1048576) (m : Int) : ∀ n k i, i + n = s.size → n < k → impl_isWord.l0 k d s m (s.size : Int) (i : Int) = some (isWd d s n i && decide ((s.size : Int) ≤ m)) := by
 intro n
 induction n with
 | zero =>
  intro k i h hk
  obtain ⟨k, rfl⟩ : ∃ m, k = m + 1 := ⟨k - 1, by omega⟩
  rw [impl_isWord.l0, if_neg (by omega)]; rfl
 | succ n ih =>
  intro k i h hk
  obtain ⟨k, rfl⟩ : ∃ m, k = m + 1 := ⟨k - 1, by omega⟩
  have hb := bt_range s i
  rw [impl_isWord.l0, if_pos (by omega), if_pos (by omega), if_pos (by omega), wrap_nat _ (by omega), wrap_of (bt s i) (by omega) (by omega), wrap_of (48 + d) (by omega) (by omega), ih k (i + 1) (by omega) (by omega), isWd]
  by_cases h1 : bt s i < 48
  ·rw [if_pos h1, decide_eq_false (by omega : ¬ 48 ≤ bt s i)]; rfl
  ·rw [if_neg h1, decide_eq_true (by omega : 48 ≤ bt s i)]
   by_cases h2 : bt s i ≥ 48 + d
   ·rw [if_pos h2, decide_eq_false (by omega : ¬ bt s i < 48 + d)]; rfl
   ·rw [if_neg h2, decide_eq_true (by omega : bt s i < 48 + d)]; simp
theorem spec_word_f (d : Int) (hd : 1 ≤ d) (hd3 : d ≤ 3) (s : ByteArray) (hs : s.size ≤ 1048576) : Ev (fun k => spec_l01Word.f k d s) (isWd d s s.size 0) :=
 ⟨s.size + 1, fun k hk => spec_word_l0 d hd hd3 s hs s.size k 0 (by omega) (by omega)⟩
theorem impl_word_f (d : Int) (hd : 1 ≤ d) (hd3 : d ≤ 3) (s : ByteArray) (hs : s.size ≤ 1048576) (m : Int) : Ev (fun k => impl_isWord.f k d s m) (isWd d s s.size 0 && decide ((s.size : Int) ≤ m)) :=
 ⟨s.size + 1, fun k hk => impl_word_l0 d hd hd3 s hs m s.size k 0 (by omega) (by omega)⟩
theorem cmp_less : ∀ a b : List UInt8, decide (Lib.compareBytes a b ≥ 0) = !(Op.bytesLess a b)
 | [], [] => rfl
 | [], _ :: _ => rfl
 | _ :: _, [] => rfl
 | a :: ar, b :: br => by
  have ih := cmp_less ar br
  unfold Lib.compareBytes Op.bytesLess
  by_cases h : a < b
  ·simp [h]
  ·by_cases h2 : b < a
   ·have h3 : ¬ a = b := fun e => by subst e; exact h h2
    simp [h, h2, h3]
   ·have h3 : a = b := UInt8.le_antisymm (UInt8.not_lt.1 h2) (UInt8.not_lt.1 h)
    subst h3
    simp [h]
    simpa using ih
theorem compare_before (v w : ByteArray) (hv : v.size ≤ 1048576) (hw : w.size ≤ 1048576) : ∃ t, impl_compareWords.f v w = some t ∧ (t ≥ 0 ↔ befW v w = false) := by
 refine ⟨_, rfl, ?_⟩
 unfold befW
 by_cases h : v.size = w.size
 ·rw [if_pos h, if_pos h]
  have := cmp_less v.data.toList w.data.toList
  rw [ByteArray.toList_eq v, ByteArray.toList_eq w]
  constructor
  ·intro h1
   rw [decide_eq_true h1] at this
   cases hh : Op.bytesLess v.data.toList w.data.toList with
   | true => rw [hh] at this; cases this
   | false => rfl
  ·intro h1
   rw [h1] at this
   exact of_decide_eq_true this
 ·rw [if_neg h, if_neg h, wrap_of _ (by omega) (by omega), decide_eq_false_iff_not]
  omega
def termOk (d n : Int) (t : S89) : Bool := (isWd d t.f0 t.f0.size 0 && decide ((t.f0.size : Int) ≤ n)) && (fitF t.f1.f0 t.f1.f1 && decide (t.f1.f0 ≠ 0))
def prevOk (v : Option ByteArray) (w : ByteArray) : Bool := match v with | none => true | some v => befW v w
def termsFrom (d n : Int) : Option ByteArray → List S89 → Bool
 | _, [] => true
 | p, t :: l => termOk d n t && prevOk p t.f0 && termsFrom d n (some t.f0) l
def prevAt (l : List S89) : Nat → Option ByteArray
 | 0 => none
 | i + 1 => (l[i]?).map (·.f0)
def serOk (d n : Int) (l : List S89) : Bool := lvlOk d n && termsFrom d n none l
/-- Words that are not too long. -/
def Small (l : List S89) : Prop := l.length ≤ 1048576 ∧ ∀ t ∈ l, t.f0.size ≤ 1048576
section
variable (d n : Int) (hd : 1 ≤ d) (hd3 : d ≤ 3) (l : List S89) (hl : Small l)
include hd hd3 hl
theorem spec_terms : ∀ e i, i + e = l.length → Ev (fun k => spec_l01Is.l0 k (i : Int) d n l) (termsFrom d n (prevAt l i) (l.drop i)) := by
 have hll := hl.1
 intro e
 induction e with
 | zero =>
  intro i hi
  refine Ev.step (f := fun _ => some true) (fun k => ?_) ?_
  ·simp only [spec_l01Is.l0]
   rw [if_neg (by omega)]
  ·rw [List.drop_of_length_le (by omega)]
   exact Ev.now _
 | succ e ih =>
  intro i hi
  have hlt : i < l.length := by omega
  have hsz := hl.2 l[i] (List.getElem_mem _)
  rw [List.drop_eq_getElem_cons hlt, termsFrom]
  have hw := spec_word_f d hd hd3 l[i].f0 hsz
  have hf := spec_isFrac_f l[i].f1.f0 l[i].f1.f1
  have hj : Ev (fun k => spec_l01Is.j1 k (i : Int) (!(termOk d n l[i])) d n l l[i].f0 l[i].f1.f0 l[i].f1.f1) (termOk d n l[i] && prevOk (prevAt l i) l[i].f0 && termsFrom d n (some l[i].f0) (l.drop (i + 1))) := by
   cases ht : termOk d n l[i] with
   | false =>
    refine Ev.step (f := fun _ => some false) (fun k => ?_) (Ev.now _)
    simp only [spec_l01Is.j1, Bool.not_false, if_true]
   | true =>
    have hn : prevAt l (i + 1) = some l[i].f0 := by simp [prevAt, hlt]
    have h := ih (i + 1) (by omega)
    rw [hn] at h
    cases i with
    | zero =>
     refine Ev.step (fun k => ?_) (show Ev (fun k => spec_l01Is.l0 k ((0 + 1 : Nat) : Int) d n l) _ from h)
     simp only [spec_l01Is.j1, Bool.not_true, Bool.false_eq_true, if_false]
     rw [if_neg (by omega), wrap_nat _ (by omega)]
    | succ j =>
     have e1 : wrap64 (((j + 1 : Nat) : Int) - 1) = (j : Int) := by rw [wrap_of _ (by omega) (by omega)]; omega
     have hp : prevAt l (j + 1) = some l[j].f0 := by simp [prevAt, show j < l.length by omega]
     rw [hp, Bool.true_and, prevOk]
     cases hb : befW l[j].f0 l[j + 1].f0 with
     | false =>
      refine Ev.step (f := fun _ => some false) (fun k => ?_) (Ev.now _)
      simp only [spec_l01Is.j1, Bool.not_true, Bool.false_eq_true, if_false]
      rw [if_pos (by omega), e1, if_pos (by omega), if_pos (by omega), rdI_nat l j (by omega), spec_before_f, hb, Option.bind_some, if_neg (by decide)]
     | true =>
      refine Ev.step (fun k => ?_) (show Ev (fun k => spec_l01Is.l0 k ((j + 1 + 1 : Nat) : Int) d n l) _ from h)
      simp only [spec_l01Is.j1, Bool.not_true, Bool.false_eq_true, if_false]
      rw [if_pos (by omega), e1, if_pos (by omega), if_pos (by omega), rdI_nat l j (by omega), spec_before_f, hb, Option.bind_some, if_pos rfl, wrap_nat _ (by omega)]
  by_cases hs : (l[i].f0.size : Int) > n
  ·have ht : termOk d n l[i] = false := by
    unfold termOk
    rw [decide_eq_false (show ¬ (l[i].f0.size : Int) ≤ n by omega), Bool.and_false, Bool.false_and]
   rw [ht, Bool.not_false] at hj
   rw [ht]
   refine Ev.step (fun k => ?_) hj
   simp only [spec_l01Is.l0]
   rw [if_pos (by omega), if_pos (by omega), rdI_nat l i hlt, if_pos hs]
  ·refine Ev.step (f := fun k => (spec_l01Word.f k d l[i].f0).bind fun t => (if t = true then ((spec_l01IsFrac.f k l[i].f1.f0 l[i].f1.f1).bind fun t => (if t = true then ((spec_l01Zero.f l[i].f1.f0 l[i].f1.f1).bind fun t => spec_l01Is.j1 k (i : Int) t d n l l[i].f0 l[i].f1.f0 l[i].f1.f1) else spec_l01Is.j1 k (i : Int) true d n l l[i].f0 l[i].f1.f0 l[i].f1.f1)) else spec_l01Is.j1 k (i : Int) true d n l l[i].f0 l[i].f1.f0 l[i].f1.f1)) (fun k => ?_) ?_
   ·simp only [spec_l01Is.l0]
    rw [if_pos (by omega), if_pos (by omega), rdI_nat l i hlt, if_neg hs]
   refine Ev.bind hw ?_
   cases hW : isWd d l[i].f0 l[i].f0.size 0 with
   | false =>
    have ht : termOk d n l[i] = false := by unfold termOk; rw [hW]; rfl
    rw [ht, Bool.not_false] at hj
    rw [ht]
    exact Ev.congr (fun k => if_neg (by decide)) hj
   | true =>
    refine Ev.congr (fun k => if_pos rfl) (Ev.bind hf ?_)
    cases hF : fitF l[i].f1.f0 l[i].f1.f1 with
    | false =>
     have ht : termOk d n l[i] = false := by unfold termOk; rw [hF]; simp
     rw [ht, Bool.not_false] at hj
     rw [ht]
     exact Ev.congr (fun k => if_neg (by decide)) hj
    | true =>
     refine Ev.congr (fun k => ?_) hj
     rw [if_pos rfl]
     unfold spec_l01Zero.f
     rw [Option.bind_some]
     have ht : (!(termOk d n l[i])) = (l[i].f1.f0 == 0) := by
      unfold termOk
      rw [hW, hF, decide_eq_true (show (l[i].f0.size : Int) ≤ n by omega)]
      by_cases h0 : l[i].f1.f0 = 0 <;> simp [h0]
     rw [ht]
theorem impl_terms : ∀ e i, i + e = l.length → Ev (fun k => impl_areTerms.l0 k d n l l (l.length : Int) (i : Int)) (termsFrom d n (prevAt l i) (l.drop i)) := by
 have hll := hl.1
 intro e
 induction e with
 | zero =>
  intro i hi
  refine Ev.step (f := fun _ => some true) (fun k => ?_) ?_
  ·simp only [impl_areTerms.l0]
   rw [if_neg (by omega)]
  ·rw [List.drop_of_length_le (by omega)]
   exact Ev.now _
 | succ e ih =>
  intro i hi
  have hlt : i < l.length := by omega
  have hsz := hl.2 l[i] (List.getElem_mem _)
  rw [List.drop_eq_getElem_cons hlt, termsFrom]
  have hw := impl_word_f d hd hd3 l[i].f0 hsz n
  have hf := impl_isFraction_f l[i].f1.f0 l[i].f1.f1
  have hn : prevAt l (i + 1) = some l[i].f0 := by simp [prevAt, hlt]
  have h := ih (i + 1) (by omega)
  rw [hn] at h
  refine Ev.step (f := fun k => (impl_isWord.f k d l[i].f0 n).bind fun t => (if t = true then ((impl_IsFraction.f k l[i].f1.f0 l[i].f1.f1).bind fun t => (if t = true then (if l[i].f1.f0 = 0 then (some false) else (if (i : Int) > 0 then (if 0 ≤ (wrap64 ((i : Int) - 1)) then (if (wrap64 ((i : Int) - 1)) < (l.length : Int) then ((impl_compareWords.f ((rd_T89 l (wrap64 ((i : Int) - 1))).f0) l[i].f0).bind fun t => (if t ≥ 0 then (some false) else (impl_areTerms.l0 k d n l l (l.length : Int) ((i + 1 : Nat) : Int)))) else (none)) else (none)) else (impl_areTerms.l0 k d n l l (l.length : Int) ((i + 1 : Nat) : Int)))) else (some false))) else (some false))) (fun k => ?_) ?_
  ·simp only [impl_areTerms.l0]
   rw [if_pos (by omega), if_pos (by omega), if_pos (by omega), rdI_nat l i hlt, wrap_nat _ (by omega)]
  refine Ev.bind hw ?_
  unfold termOk
  cases hW : (isWd d l[i].f0 l[i].f0.size 0 && decide ((l[i].f0.size : Int) ≤ n)) with
  | false => exact Ev.congr (f := fun _ => some false) (fun k => if_neg (by decide)) (Ev.now _)
  | true =>
   refine Ev.congr (fun k => if_pos rfl) (Ev.bind hf ?_)
   cases hF : fitF l[i].f1.f0 l[i].f1.f1 with
   | false => exact Ev.congr (f := fun _ => some false) (fun k => if_neg (by decide)) (Ev.now _)
   | true =>
    by_cases h0 : l[i].f1.f0 = 0
    ·refine Ev.congr (f := fun _ => some false) (fun k => by rw [if_pos rfl, if_pos h0]) ?_
     rw [h0]
     exact Ev.now _
    ·rw [decide_eq_true h0]
     cases i with
     | zero =>
      refine Ev.congr (fun k => ?_) (show Ev (fun k => impl_areTerms.l0 k d n l l (l.length : Int) ((0 + 1 : Nat) : Int)) _ from h)
      rw [if_pos rfl, if_neg h0, if_neg (by omega)]
     | succ j =>
      have e1 : wrap64 (((j + 1 : Nat) : Int) - 1) = (j : Int) := by rw [wrap_of _ (by omega) (by omega)]; omega
      have hp : prevAt l (j + 1) = some l[j].f0 := by simp [prevAt, show j < l.length by omega]
      obtain ⟨t, ht, hc⟩ := compare_before l[j].f0 l[j + 1].f0 (hl.2 _ (List.getElem_mem _)) hsz
      rw [hp, prevOk]
      cases hb : befW l[j].f0 l[j + 1].f0 with
      | false =>
       refine Ev.congr (f := fun _ => some false) (fun k => ?_) (Ev.now _)
       rw [if_pos rfl, if_neg h0, if_pos (by omega), e1, if_pos (by omega), if_pos (by omega), rdI_nat l j (by omega), ht, Option.bind_some, if_pos (hc.2 hb)]
      | true =>
       refine Ev.congr (fun k => ?_) (show Ev (fun k => impl_areTerms.l0 k d n l l (l.length : Int) ((j + 1 + 1 : Nat) : Int)) _ from h)
       rw [if_pos rfl, if_neg h0, if_pos (by omega), e1, if_pos (by omega), if_pos (by omega), rdI_nat l j (by omega), ht, Option.bind_some, if_neg (fun hh => by rw [hc.1 hh] at hb; cases hb)]
end
theorem spec_is_f (d n : Int) (l : List S89) (hl : Small l) : Ev (fun k => spec_l01Is.f k d n l) (serOk d n l) := by
 unfold spec_l01Is.f serOk
 simp only [spec_sizes_f, Option.bind_some]
 cases h : lvlOk d n with
 | false => exact Ev.now _
 | true =>
  have hb := lvlOk_bounds h
  exact Ev.congr (fun k => if_pos rfl) (spec_terms d n hb.1 hb.2.1 l hl l.length 0 (by omega))
theorem impl_isSeries_f (d n : Int) (l : List S89) (hl : Small l) : Ev (fun k => impl_IsSeries.f k d n l) (serOk d n l) := by
 unfold impl_IsSeries.f serOk
 simp only [impl_isLevel_f, Option.bind_some]
 cases h : lvlOk d n with
 | false => exact Ev.now _
 | true =>
  have hb := lvlOk_bounds h
  refine Ev.congr (fun k => if_pos rfl) (Ev.bind (f := fun _ t => some t) (show Ev (fun k => impl_areTerms.f k d n l) _ from impl_terms d n hb.1 hb.2.1 l hl l.length 0 (by omega)) (Ev.now _))
end Go.Proofs.Ytcklefgkbddlhaa.Pure
