/- Plain lemmas on sums and differences of lists of whole numbers. -/
import Derived.Test.YtmgkalljgglabaaPx19
import Derived.Test.YtmgkalljgglabaaPx20
import Derived.Test.YtmgkalljgglabaaPx22
import Derived.Test.YtmgkalljgglabaaBaseInts
namespace Go.Proofs.Ytmgkalljgglabaa.Pure
open Go.RowKit Go.Proofs.Ytmgkalljgglabaa.P Go.Proofs.YtmgkalljgglabaaW.PrintWords Go.Proofs.YtmgkalljgglabaaW.PrintLast
set_option linter.unusedVariables false
set_option linter.unusedSimpArgs false

theorem spec_l01In_f' (n lo hi : Int) : spec_l01In.f n lo hi = some (decide (lo ≤ n) && decide (n ≤ hi)) := by
  unfold spec_l01In.f
  by_cases h : n ≥ lo
  · rw [if_pos h]; simp [show lo ≤ n from h]
  · rw [if_neg h]; simp [show ¬ lo ≤ n from h]
/-- All numbers at most 100 in absolute value. -/
def allSmall (l : List Int) : Bool := !(l.any fun x => !(Hand.upToB x 100))
theorem upToB_100 (x : Int) : Hand.upToB x 100 = (decide (-100 ≤ x) && decide (x ≤ 100)) := by
  unfold Hand.upToB
  rw [show wrap64 (-100) = -100 from by unfold wrap64; omega]
theorem allSmall_cons (a : Int) (l : List Int) : allSmall (a :: l) = ((decide (-100 ≤ a) && decide (a ≤ 100)) && allSmall l) := by
  unfold allSmall
  rw [List.any_cons, upToB_100]
  simp
/-- A list of at least low and at most 12 small numbers. -/
def areNums (low : Int) (l : List Int) : Bool := allSmall l && (decide (low ≤ (l.length : Int)) && decide ((l.length : Int) ≤ 12))
theorem spec_l10List_l0 (low : Int) (l : List Int) (hl : l.length ≤ 4000000) : ∀ d k i, i + d = l.length → d < k → spec_l10List.l0 k l low (i : Int) = some (allSmall (l.drop i) && (decide (low ≤ (l.length : Int)) && decide ((l.length : Int) ≤ 12))) := by
  intro d
  induction d with
  | zero =>
    intro k i h hk
    obtain ⟨k, rfl⟩ : ∃ m, k = m + 1 := ⟨k - 1, by omega⟩
    simp only [spec_l10List.l0]
    rw [if_neg (by omega), List.drop_of_length_le (by omega)]
    by_cases h0 : (l.length : Int) ≥ low
    · rw [if_pos h0]; simp [allSmall, show low ≤ (l.length : Int) from h0]
    · rw [if_neg h0]; simp [allSmall, show ¬ low ≤ (l.length : Int) from h0]
  | succ d ih =>
    intro k i h hk
    obtain ⟨k, rfl⟩ : ∃ m, k = m + 1 := ⟨k - 1, by omega⟩
    simp only [spec_l10List.l0]
    rw [if_pos (by omega), if_pos (by omega), rd_nat l i (by omega), spec_l01In_f', Option.bind_some, List.drop_eq_getElem_cons (show i < l.length by omega), wrap_nat _ (by omega)]
    by_cases hs : (decide (-100 ≤ l[i]) && decide (l[i] ≤ 100)) = true
    · rw [if_pos hs, ih k (i + 1) (by omega) (by omega)]
      rw [allSmall_cons, hs, Bool.true_and]
    · rw [if_neg hs]
      rw [allSmall_cons, Bool.eq_false_iff.mpr hs]; rfl
theorem spec_l10List_f (k : Nat) (low : Int) (l : List Int) (hl : l.length ≤ 4000000) (hk : l.length < k) : spec_l10List.f k l low = some (areNums low l) := by
  unfold spec_l10List.f areNums
  have := spec_l10List_l0 low l hl l.length k 0 (by omega) hk
  simpa using this
theorem impl_areNumbers_f (l : List Int) : impl_areNumbers.f l = some (areNums 0 l) := by
  unfold impl_areNumbers.f areNums impl_allUpTo.f
  by_cases h : (l.length : Int) ≤ 12
  · rw [if_pos h]; simp [allSmall, h]
  · rw [if_neg h]; simp [h]
theorem areNums_length {low : Int} {l : List Int} (h : areNums low l = true) : l.length ≤ 12 := by
  unfold areNums at h
  simp only [Bool.and_eq_true, decide_eq_true_eq] at h
  omega

/-- The sums, from what there is on. -/
def sumsW (l : List Int) : Nat → Nat → List Int → List Int
  | 0, _, out => out
  | d + 1, i, out => sumsW l d (i + 1) (out ++ [wrap64 (rd out (i : Int) + rd l (i : Int))])
theorem sumsW_length (l : List Int) : ∀ d i out, (sumsW l d i out).length = out.length + d := by
  intro d
  induction d with
  | zero => intro i out; rfl
  | succ d ih => intro i out; simp only [sumsW]; rw [ih]; simp; omega
theorem spec_SumsOf_l0 (l : List Int) (hl : l.length ≤ 12) : ∀ d k i (x : List Int), i + d = l.length → d < k → x.length = i + 1 → spec_SumsOf.l0 k l x (i : Int) = some (sumsW l d i x, 0) := by
  intro d
  induction d with
  | zero =>
    intro k i x h hk hx
    obtain ⟨k, rfl⟩ : ∃ m, k = m + 1 := ⟨k - 1, by omega⟩
    simp only [spec_SumsOf.l0]
    rw [if_neg (by omega)]
    rfl
  | succ d ih =>
    intro k i x h hk hx
    obtain ⟨k, rfl⟩ : ∃ m, k = m + 1 := ⟨k - 1, by omega⟩
    simp only [spec_SumsOf.l0]
    rw [if_pos (by omega), if_pos (by omega), if_pos (by omega), if_pos (by omega), wrap_nat _ (by omega), ih k (i + 1) _ (by omega) (by omega) (by simp; omega)]
    rfl
theorem impl_SumsOf_l0 (l : List Int) (hl : l.length ≤ 12) : ∀ d k i (x : List Int), i + d = l.length → d < k → x.length = i + 1 → impl_SumsOf.l0 k x l (l.length : Int) (i : Int) = some (sumsW l d i x, 0) := by
  intro d
  induction d with
  | zero =>
    intro k i x h hk hx
    obtain ⟨k, rfl⟩ : ∃ m, k = m + 1 := ⟨k - 1, by omega⟩
    simp only [impl_SumsOf.l0]
    rw [if_neg (by omega)]
    rfl
  | succ d ih =>
    intro k i x h hk hx
    obtain ⟨k, rfl⟩ : ∃ m, k = m + 1 := ⟨k - 1, by omega⟩
    simp only [impl_SumsOf.l0]
    rw [if_pos (by omega), if_pos (by omega), if_pos (by omega), if_pos (by omega), if_pos (by omega), wrap_nat _ (by omega), ih k (i + 1) _ (by omega) (by omega) (by simp; omega)]
    rfl
/-- What SumsOf returns. -/
def sumsRes (l : List Int) : List Int × Int := if areNums 0 l = true then (sumsW l l.length 0 [0], 0) else ([], 2)
theorem spec_SumsOf_f (k : Nat) (l : List Int) (hl : l.length ≤ 4000000) (hk : l.length + 20 < k) : spec_SumsOf.f k l = some (sumsRes l) := by
  unfold spec_SumsOf.f sumsRes
  rw [spec_l10List_f k 0 l hl (by omega), Option.bind_some]
  split
  · next h => have := spec_SumsOf_l0 l (areNums_length h) l.length k 0 [0] (by omega) (by omega) rfl; simpa using this
  · rfl
theorem impl_SumsOf_f (k : Nat) (l : List Int) (hl : l.length ≤ 4000000) (hk : l.length + 20 < k) : impl_SumsOf.f k l = some (sumsRes l) := by
  unfold impl_SumsOf.f sumsRes
  rw [impl_areNumbers_f, Option.bind_some]
  split
  · next h => have := impl_SumsOf_l0 l (areNums_length h) l.length k 0 [0] (by omega) (by omega) rfl; simpa using this
  · rfl
theorem sumsRes_length (l : List Int) : (sumsRes l).1.length ≤ 13 := by
  unfold sumsRes
  split
  · next h => have := areNums_length h; simp only [sumsW_length, List.length_singleton]; omega
  · simp

/-- The differences, from place i on. -/
def diffsW (l : List Int) : Nat → Nat → List Int → List Int
  | 0, _, out => out
  | d + 1, i, out => diffsW l d (i + 1) (out ++ [wrap64 (rd l (i : Int) - rd l ((i : Int) - 1))])
theorem diffsW_length (l : List Int) : ∀ d i out, (diffsW l d i out).length = out.length + d := by
  intro d
  induction d with
  | zero => intro i out; rfl
  | succ d ih => intro i out; simp only [diffsW]; rw [ih]; simp; omega
theorem spec_DifferencesOf_l0 (l : List Int) (hl : l.length ≤ 12) : ∀ d k i (x : List Int), i + d = l.length → d < k → 1 ≤ i → x.length ≤ i → spec_DifferencesOf.l0 k l x (i : Int) = some (diffsW l d i x, 0) := by
  intro d
  induction d with
  | zero =>
    intro k i x h hk h1 hx
    obtain ⟨k, rfl⟩ : ∃ m, k = m + 1 := ⟨k - 1, by omega⟩
    simp only [spec_DifferencesOf.l0]
    rw [if_neg (by omega)]
    rfl
  | succ d ih =>
    intro k i x h hk h1 hx
    obtain ⟨k, rfl⟩ : ∃ m, k = m + 1 := ⟨k - 1, by omega⟩
    simp only [spec_DifferencesOf.l0]
    rw [wrap_of ((i : Int) - 1) (by omega) (by omega), if_pos (by omega), if_pos (by omega), if_pos (by omega), if_pos (by omega), if_pos (by omega), wrap_nat _ (by omega), ih k (i + 1) _ (by omega) (by omega) (by omega) (by simp; omega)]
    rfl
theorem impl_DifferencesOf_l0 (l : List Int) (hl : l.length ≤ 12) : ∀ d k i (x : List Int), i + d = l.length → d < k → 1 ≤ i → x.length ≤ i → impl_DifferencesOf.l0 k l x (i : Int) = some (diffsW l d i x, 0) := by
  intro d
  induction d with
  | zero =>
    intro k i x h hk h1 hx
    obtain ⟨k, rfl⟩ : ∃ m, k = m + 1 := ⟨k - 1, by omega⟩
    simp only [impl_DifferencesOf.l0]
    rw [if_neg (by omega)]
    rfl
  | succ d ih =>
    intro k i x h hk h1 hx
    obtain ⟨k, rfl⟩ : ∃ m, k = m + 1 := ⟨k - 1, by omega⟩
    simp only [impl_DifferencesOf.l0]
    rw [wrap_of ((i : Int) - 1) (by omega) (by omega), if_pos (by omega), if_pos (by omega), if_pos (by omega), if_pos (by omega), if_pos (by omega), wrap_nat _ (by omega), ih k (i + 1) _ (by omega) (by omega) (by omega) (by simp; omega)]
    rfl
/-- What DifferencesOf returns. -/
def diffsRes (l : List Int) : List Int × Int := if areNums 1 l = true then (diffsW l (l.length - 1) 1 [], 0) else ([], 2)
theorem spec_DifferencesOf_f (k : Nat) (l : List Int) (hl : l.length ≤ 4000000) (hk : l.length + 20 < k) : spec_DifferencesOf.f k l = some (diffsRes l) := by
  unfold spec_DifferencesOf.f diffsRes
  rw [spec_l10List_f k 1 l hl (by omega), Option.bind_some]
  split
  · next h =>
    have h1 : 1 ≤ l.length := by unfold areNums at h; simp only [Bool.and_eq_true, decide_eq_true_eq] at h; omega
    have := spec_DifferencesOf_l0 l (areNums_length h) (l.length - 1) k 1 [] (by omega) (by omega) (by omega) (by simp); simpa using this
  · rfl
theorem impl_DifferencesOf_f (k : Nat) (l : List Int) (hl : l.length ≤ 4000000) (hk : l.length + 20 < k) : impl_DifferencesOf.f k l = some (diffsRes l) := by
  obtain ⟨k, rfl⟩ : ∃ m, k = m + 1 := ⟨k - 1, by omega⟩
  unfold impl_DifferencesOf.f diffsRes
  rw [impl_areNumbers_f, Option.bind_some]
  by_cases h0 : areNums 0 l = true
  · rw [if_pos h0]
    simp only [impl_DifferencesOf.j0]
    by_cases hn : (l.length : Int) = 0
    · rw [if_pos (by simpa using hn), if_neg (by unfold areNums; simp; omega)]
    · have h1 : areNums 1 l = true := by
        unfold areNums at h0 ⊢
        simp only [Bool.and_eq_true, decide_eq_true_eq] at h0 ⊢
        exact ⟨h0.1, by omega, h0.2.2⟩
      rw [if_neg (by simpa using hn), if_pos h1]
      have := impl_DifferencesOf_l0 l (areNums_length h1) (l.length - 1) k 1 [] (by omega) (by omega) (by omega) (by simp)
      simpa using this
  · rw [if_neg h0]
    simp only [impl_DifferencesOf.j0, if_true]
    rw [if_neg]
    intro h1
    apply h0
    unfold areNums at h1 ⊢
    simp only [Bool.and_eq_true, decide_eq_true_eq] at h1 ⊢
    exact ⟨h1.1, by omega, h1.2.2⟩
theorem diffsRes_length (l : List Int) : (diffsRes l).1.length ≤ 13 := by
  unfold diffsRes
  split
  · next h => have := areNums_length h; simp only [diffsW_length, List.length_nil]; omega
  · simp

end Go.Proofs.Ytmgkalljgglabaa.Pure
