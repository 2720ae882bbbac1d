/- Plain lemmas: the coefficients of signatures, times the factorials of the lengths of words. -/
import Derived.Test.YtcklefgkbddlhaaBaseCopies0
namespace Go.Proofs.Ytcklefgkbddlhaa.Pure
set_option linter.unusedVariables false
set_option linter.unusedSimpArgs false

def fct : Nat → Nat
  | 0 => 1
  | n + 1 => (n + 1) * fct n
def bin (q i : Nat) : Nat := fct q / (fct i * fct (q - i))
theorem fct_pos : ∀ n, 1 ≤ fct n
  | 0 => by decide
  | n + 1 => by
    have := fct_pos n
    rw [fct]
    exact Nat.le_trans (by omega) (Nat.mul_le_mul (Nat.le_add_left 1 n) this)
theorem bin_fct : ∀ q, q ≤ 5 → ∀ i, i ≤ q → bin q i * (fct i * fct (q - i)) = fct q := by decide
theorem fct_small : ∀ q, q ≤ 5 → fct q ≤ 120 := by decide
def bsum (L q : Nat) : Nat → Nat
  | 0 => 0
  | i + 1 => bsum L q i + bin q i * L ^ i
theorem bsum_le : ∀ L, L ≤ 12 → ∀ q, q ≤ 5 → ∀ i, i ≤ q + 1 → bsum L q i ≤ (L + 1) ^ q := by decide
theorem pow13 : ∀ L, L ≤ 13 → ∀ q, q ≤ 5 → L ^ q ≤ 371293 := by decide
/-- The sum over the parts of a word, up to a place. -/
def cv (A B : List UInt8 → Int) (w : List UInt8) : Nat → Int
  | 0 => 0
  | i + 1 => cv A B w i + (bin w.length i : Int) * (A (w.take i) * B (w.drop i))
def conv (A B : List UInt8 → Int) (w : List UInt8) : Int := cv A B w (w.length + 1)
theorem cv_bound (A B : List UInt8 → Int) (w : List UInt8) (L : Nat) (hA : ∀ i, i ≤ w.length → (A (w.take i)).natAbs ≤ L ^ i) (hB : ∀ i, i ≤ w.length → (B (w.drop i)).natAbs ≤ 1) : ∀ i, i ≤ w.length + 1 → (cv A B w i).natAbs ≤ bsum L w.length i
  | 0, _ => by simp [cv]
  | i + 1, h => by
    have ih := cv_bound A B w L hA hB i (by omega)
    have h1 := hA i (by omega)
    have h2 := hB i (by omega)
    have h3 : (A (w.take i) * B (w.drop i)).natAbs ≤ L ^ i := by
      rw [Int.natAbs_mul]
      exact Nat.le_trans (Nat.mul_le_mul h1 h2) (by omega)
    have h4 : ((bin w.length i : Int) * (A (w.take i) * B (w.drop i))).natAbs ≤ bin w.length i * L ^ i := by
      rw [Int.natAbs_mul, Int.natAbs_natCast]
      exact Nat.mul_le_mul_left _ h3
    rw [cv, bsum]
    omega
/-- A sum with one part alone. -/
theorem cv_one (A B : List UInt8 → Int) (w : List UInt8) (p : Nat) (h : ∀ i, i ≤ w.length → i ≠ p → A (w.take i) * B (w.drop i) = 0) : ∀ i, i ≤ w.length + 1 → cv A B w i = if p < i then (bin w.length p : Int) * (A (w.take p) * B (w.drop p)) else 0
  | 0, _ => by simp [cv]
  | i + 1, hi => by
    rw [cv, cv_one A B w p h i (by omega)]
    by_cases e : i = p
    · subst e
      rw [if_neg (by omega), if_pos (by omega), Int.zero_add]
    · rw [h i (by omega) e, Int.mul_zero, Int.add_zero]
      by_cases h2 : p < i
      · rw [if_pos h2, if_pos (by omega)]
      · rw [if_neg h2, if_neg (by omega)]
/-- The words of one letter. -/
def rp (c : UInt8) (n : Nat) : List UInt8 := List.replicate n c
def unitA (w : List UInt8) : Int := if w = [] then 1 else 0
/-- A step, its powers, the parts of its exponential. -/
def stepA (c : UInt8) (s : Int) (w : List UInt8) : Int := if w = [c] then s else 0
def powA (c : UInt8) (s : Int) (k : Nat) (w : List UInt8) : Int := if w = rp c k then s ^ k * (fct k : Int) else 0
def partA (c : UInt8) (s : Int) (k : Nat) (w : List UInt8) : Int := if w = rp c k then s ^ k else 0
def expA (c : UInt8) (s : Int) (k : Nat) (w : List UInt8) : Int := if w = rp c w.length ∧ w.length < k then s ^ w.length else 0
theorem powA_zero (c : UInt8) (s : Int) : powA c s 0 = unitA := by
  funext w
  simp [powA, unitA, rp, fct]
theorem bin_last : ∀ q, q ≤ 5 → bin (q + 1) q = q + 1 := by decide
theorem pow_zero (c : UInt8) (s : Int) (k : Nat) (w : List UInt8) : ∀ i, i ≤ w.length → i ≠ k → powA c s k (w.take i) * stepA c s (w.drop i) = 0 := fun i hi hne => by
  unfold powA
  rw [if_neg (fun e => hne (by have := congrArg List.length e; simp [rp] at this; omega)), Int.zero_mul]
theorem bin_small : ∀ q, q ≤ 5 → ∀ i, bin q i ≤ 120 := fun q hq i => Nat.le_trans (Nat.div_le_self _ _) (fct_small q hq)
theorem powA_succ (c : UInt8) (s : Int) (k : Nat) (w : List UInt8) (hw : w.length ≤ 5) : conv (powA c s k) (stepA c s) w = powA c s (k + 1) w := by
  unfold conv
  rw [cv_one (powA c s k) (stepA c s) w k (fun i hi hne => ?_) _ (Nat.le_refl _)]
  · by_cases hk : k < w.length + 1
    · rw [if_pos hk]
      unfold powA stepA
      by_cases h : w = rp c (k + 1)
      · have hl : w.length = k + 1 := by rw [h]; simp [rp]
        have h1 : w.take k = rp c k := by rw [h]; simp [rp]
        have h2 : w.drop k = [c] := by rw [h]; simp [rp]
        rw [if_pos h, if_pos h1, if_pos h2, hl, bin_last k (by omega), fct]
        rw [Int.natCast_mul, Int.pow_succ]
        generalize s ^ k = x
        generalize ((fct k : Nat) : Int) = y
        generalize ((k + 1 : Nat) : Int) = z
        rw [Int.mul_assoc, Int.mul_comm y s, ← Int.mul_assoc x s y, ← Int.mul_assoc, Int.mul_comm z, Int.mul_assoc, ]
      · rw [if_neg h]
        by_cases h1 : w.take k = rp c k
        · by_cases h2 : w.drop k = [c]
          · exfalso
            apply h
            rw [← List.take_append_drop k w, h1, h2, rp, rp, List.replicate_succ']
          · rw [if_neg h2]; simp
        · rw [if_neg h1]; simp
    · rw [if_neg hk]
      unfold powA
      rw [if_neg (fun e => hk (by rw [e]; simp [rp]; omega))]
  · unfold powA
    rw [if_neg (fun e => hne (by have := congrArg List.length e; simp [rp] at this; omega)), Int.zero_mul]
theorem expA_succ (c : UInt8) (s : Int) (k : Nat) (w : List UInt8) : expA c s k w + partA c s k w = expA c s (k + 1) w := by
  unfold expA partA
  by_cases h : w = rp c w.length
  · by_cases hl : w.length = k
    · have h' : w = rp c k := by rw [← hl]; exact h
      rw [if_neg (fun e => by omega), if_pos h', if_pos ⟨h, by omega⟩, hl, Int.zero_add]
    · have h' : ¬ w = rp c k := fun e => hl (by rw [e]; simp [rp])
      rw [if_neg h', Int.add_zero]
      by_cases h3 : w.length < k
      · rw [if_pos ⟨h, h3⟩, if_pos ⟨h, by omega⟩]
      · rw [if_neg (fun e => h3 e.2), if_neg (fun e => h3 (by omega))]
  · have h' : ¬ w = rp c k := fun e => h (by rw [e]; simp [rp])
    rw [if_neg (fun e => h e.1), if_neg h', if_neg (fun e => h e.1)]; rfl
theorem expA_zero (c : UInt8) (s : Int) (w : List UInt8) : expA c s 0 w = 0 := by
  unfold expA
  rw [if_neg (fun e => by omega)]
theorem pow_sign (s : Int) (hs : s = 1 ∨ s = -1) : ∀ k : Nat, (s ^ k).natAbs ≤ 1
  | 0 => by simp
  | k + 1 => by
    have := pow_sign s hs k
    rw [Int.pow_succ, Int.natAbs_mul]
    rcases hs with rfl | rfl <;> simp
theorem expA_small (c : UInt8) (s : Int) (hs : s = 1 ∨ s = -1) (k : Nat) (w : List UInt8) : (expA c s k w).natAbs ≤ 1 := by
  unfold expA
  split
  · exact pow_sign s hs _
  · decide
/-- The letter and the sign of a number. -/
def ltr (n : Int) : UInt8 := UInt8.ofNat (47 + n.natAbs)
def sgn (n : Int) : Int := if 0 < n then 1 else -1
theorem sgn_or (n : Int) : sgn n = 1 ∨ sgn n = -1 := by unfold sgn; split <;> simp
/-- The coefficients of a signature, times the factorial of a word's length. -/
def sigA (N : Nat) : List Int → (List UInt8 → Int) → List UInt8 → Int
  | [], A => A
  | n :: l, A => sigA N l (conv A (expA (ltr n) (sgn n) (N + 1)))
theorem conv_bound (A : List UInt8 → Int) (n : Int) (N L : Nat) (hL : L ≤ 12) (hA : ∀ w : List UInt8, w.length ≤ 5 → (A w).natAbs ≤ L ^ w.length) (w : List UInt8) (hw : w.length ≤ 5) : ∀ i, i ≤ w.length + 1 → (cv A (expA (ltr n) (sgn n) (N + 1)) w i).natAbs ≤ (L + 1) ^ w.length := fun i hi => by
  refine Nat.le_trans (cv_bound A _ w L (fun j hj => ?_) (fun j hj => expA_small _ _ (sgn_or n) _ _) i hi) (bsum_le L hL _ hw i hi)
  have := hA (w.take j) (by rw [List.length_take]; omega)
  rw [List.length_take, Nat.min_eq_left hj] at this
  exact this
end Go.Proofs.Ytcklefgkbddlhaa.Pure
