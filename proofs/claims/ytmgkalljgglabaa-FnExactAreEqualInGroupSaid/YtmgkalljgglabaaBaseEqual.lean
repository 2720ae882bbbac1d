/- Plain lemmas on words that are equal in the group. -/
import Derived.Test.YtmgkalljgglabaaPx4
import Derived.Test.YtmgkalljgglabaaPx5
import Derived.Test.YtmgkalljgglabaaBaseReduce
namespace Go.Proofs.Ytmgkalljgglabaa.Pure
open Go.RowKit Go.Proofs.Ytmgkalljgglabaa.P Go.Proofs.YtmgkalljgglabaaW.PrintWords Go.Proofs.YtmgkalljgglabaaW.PrintLast
set_option linter.unusedVariables false
set_option linter.unusedSimpArgs false

theorem Equal_l0 (a b : List Int) (hab : a.length = b.length) (hl : a.length ≤ 4000000) : ∀ d k i, i + d = a.length → d < k → slices_Equal_int64_int64.l0 k a b (a.length : Int) (i : Int) = some (decide (a.drop i = b.drop i)) := by
  intro d
  induction d with
  | zero =>
    intro k i h hk
    obtain ⟨k, rfl⟩ : ∃ m, k = m + 1 := ⟨k - 1, by omega⟩
    simp only [slices_Equal_int64_int64.l0]
    rw [if_neg (by omega), List.drop_of_length_le (by omega), List.drop_of_length_le (by omega)]
    rfl
  | succ d ih =>
    intro k i h hk
    obtain ⟨k, rfl⟩ : ∃ m, k = m + 1 := ⟨k - 1, by omega⟩
    simp only [slices_Equal_int64_int64.l0]
    rw [if_pos (by omega), if_pos (by omega), if_pos (by omega), if_pos (by omega), wrap_nat _ (by omega), rd_nat a i (by omega), rd_nat b i (by omega), ih k (i + 1) (by omega) (by omega), List.drop_eq_getElem_cons (show i < a.length by omega), List.drop_eq_getElem_cons (show i < b.length by omega)]
    by_cases e : a[i] = b[i]
    · rw [if_pos e]
      congr 1
      rw [decide_eq_decide]
      constructor
      · intro h; rw [e, h]
      · intro h; exact (List.cons.inj h).2
    · rw [if_neg e]
      congr 1
      symm
      rw [decide_eq_false_iff_not]
      intro h
      exact e (List.cons.inj h).1
theorem Equal_f (k : Nat) (a b : List Int) (hl : a.length ≤ 4000000) (hk : a.length < k) : slices_Equal_int64_int64.f k a b = some (decide (a = b)) := by
  unfold slices_Equal_int64_int64.f
  by_cases h : (a.length : Int) = (b.length : Int)
  · rw [if_pos h]
    have := Equal_l0 a b (by omega) hl a.length k 0 (by omega) hk
    simpa using this
  · rw [if_neg h]
    congr 1
    symm
    rw [decide_eq_false_iff_not]
    intro e
    exact h (by rw [e])
theorem spec_Equal_l0 (a b : List Int) (hab : a.length = b.length) (hl : a.length ≤ 4000000) : ∀ d k i (s : Bool), i + d = a.length → d < k → spec_AreEqualInGroup.l0 k a b s (i : Int) = some (s && decide (a.drop i = b.drop i), 0) := by
  intro d
  induction d with
  | zero =>
    intro k i s h hk
    obtain ⟨k, rfl⟩ : ∃ m, k = m + 1 := ⟨k - 1, by omega⟩
    simp only [spec_AreEqualInGroup.l0]
    rw [if_neg (by omega), List.drop_of_length_le (by omega), List.drop_of_length_le (by omega)]
    simp
  | succ d ih =>
    intro k i s h hk
    obtain ⟨k, rfl⟩ : ∃ m, k = m + 1 := ⟨k - 1, by omega⟩
    simp only [spec_AreEqualInGroup.l0]
    rw [if_pos (by omega)]
    cases s with
    | false => simp
    | true =>
      rw [if_pos rfl, if_pos (by omega), if_pos (by omega), wrap_nat _ (by omega), rd_nat a i (by omega), rd_nat b i (by omega), ih k (i + 1) _ (by omega) (by omega), List.drop_eq_getElem_cons (show i < a.length by omega), List.drop_eq_getElem_cons (show i < b.length by omega)]
      generalize a.drop (i + 1) = x
      generalize b.drop (i + 1) = y
      generalize a[i] = p
      generalize b[i] = q
      by_cases e : p = q <;> simp [e]
/-- What AreEqualInGroup returns. -/
def equalRes (d : Int) (a b : List Int) : Bool × Int := if isGroup d a = true ∧ isGroup d b = true then (decide (redW a = redW b), 0) else (false, 2)
theorem spec_AreEqualInGroup_f (k : Nat) (d : Int) (a b : List Int) (hk : 40 ≤ k) : spec_AreEqualInGroup.f k d a b = some (equalRes d a b) := by
  obtain ⟨k, rfl⟩ : ∃ m, k = m + 1 := ⟨k - 1, by omega⟩
  unfold spec_AreEqualInGroup.f equalRes
  rw [spec_l09Is_f _ d a (by omega), Option.bind_some]
  by_cases ha : isGroup d a = true
  · rw [if_pos ha, spec_l09Is_f _ d b (by omega), Option.bind_some]
    have hla := isGroup_length ha
    by_cases hb : isGroup d b = true
    · have hlb := isGroup_length hb
      rw [if_pos ⟨ha, hb⟩, hb]
      have r1 := redW_length a
      have r2 := redW_length b
      simp only [spec_AreEqualInGroup.j0, Bool.not_true, Bool.false_eq_true, if_false]
      rw [spec_l09Reduce_f k a (by omega) (by omega), Option.bind_some, spec_l09Reduce_f k b (by omega) (by omega), Option.bind_some]
      by_cases e : (redW a).length = (redW b).length
      · have := spec_Equal_l0 (redW a) (redW b) e (by omega) (redW a).length k 0 ((((redW a).length : Int)) == ((redW b).length : Int)) (by omega) (by omega)
        have h1 : ((((redW a).length : Int)) == ((redW b).length : Int)) = true := by simp [e]
        rw [h1] at this ⊢
        rw [show ((0 : Nat) : Int) = 0 from rfl] at this
        rw [this]
        simp only [List.drop_zero, Bool.true_and]
      · obtain ⟨k, rfl⟩ : ∃ m, k = m + 1 := ⟨k - 1, by omega⟩
        have h1 : ((((redW a).length : Int)) == ((redW b).length : Int)) = false := by simp; omega
        have h2 : decide (redW a = redW b) = false := by rw [decide_eq_false_iff_not]; intro h; exact e (by rw [h])
        rw [h1, h2]
        simp [spec_AreEqualInGroup.l0]
    · rw [if_neg (fun h => hb h.2), Bool.eq_false_iff.mpr hb]
      simp [spec_AreEqualInGroup.j0]
  · rw [if_neg ha, if_neg (fun h => ha h.1)]
    simp [spec_AreEqualInGroup.j0]
theorem impl_AreEqualInGroup_f (k : Nat) (d : Int) (a b : List Int) (hk : 40 ≤ k) : impl_AreEqualInGroup.f k d a b = some (equalRes d a b) := by
  obtain ⟨k, rfl⟩ : ∃ m, k = m + 1 := ⟨k - 1, by omega⟩
  unfold impl_AreEqualInGroup.f equalRes
  rw [impl_IsGroupWord_f, Option.bind_some]
  by_cases ha : isGroup d a = true
  · rw [if_pos ha, impl_IsGroupWord_f, Option.bind_some]
    have hla := isGroup_length ha
    by_cases hb : isGroup d b = true
    · have hlb := isGroup_length hb
      have r1 := redW_length a
      rw [if_pos ⟨ha, hb⟩, hb]
      simp only [impl_AreEqualInGroup.j0, Bool.not_true, Bool.false_eq_true, if_false]
      rw [impl_reduceWord_f k a (by omega) (by omega), Option.bind_some, impl_reduceWord_f k b (by omega) (by omega), Option.bind_some, Equal_f k _ _ (by omega) (by omega)]
      rfl
    · rw [if_neg (fun h => hb h.2), Bool.eq_false_iff.mpr hb]
      simp [impl_AreEqualInGroup.j0]
  · rw [if_neg ha, if_neg (fun h => ha h.1)]
    simp [impl_AreEqualInGroup.j0]

end Go.Proofs.Ytmgkalljgglabaa.Pure
