/- Plain lemmas on rows of whole numbers: sizes, copies, equality. -/
import Derived.Test.YtcklefgkbddlhaaPx11
import Derived.Test.YtcklefgkbddlhaaPx2
import Derived.Test.YtcklefgkbddlhaaPx20
import Derived.Test.YtcklefgkbddlhaaPx3
import Derived.Test.YtcklefgkbddlhaaBaseX
namespace Go.Proofs.Ytcklefgkbddlhaa.Pure
open Go.RowKit Go.Proofs.Ytcklefgkbddlhaa.P Go.Proofs.YtcklefgkbddlhaaW.PrintWords Go.Proofs.YtcklefgkbddlhaaW.PrintLast
set_option linter.unusedVariables false
set_option linter.unusedSimpArgs false

theorem rdR_nat (l : List (List Int)) (i : Nat) (h : i < l.length) : rd_L6 l (i : Int) = l[i] := by simp [rd_L6, List.getD_eq_getElem?_getD, h]
/-- How much rows hold, and how much tables hold. -/
def size2 : List (List Int) → Nat
  | [] => 0
  | r :: l => r.length + size2 l
theorem size2_mem {l : List (List Int)} {r : List Int} (h : r ∈ l) : r.length ≤ size2 l := by
  induction l with
  | nil => cases h
  | cons a l ih =>
    simp only [size2]
    rcases List.mem_cons.1 h with h | h
    · subst h; omega
    · have := ih h; omega
theorem szS_f (r : List Int) (left : Int) (h0 : 0 ≤ left) (h1 : left ≤ 1048576) (hr : r.length ≤ 9223372036854775807) : laws_szInt64S.f r left = some (if left - r.length < 0 then -1 else left - r.length) := by
  unfold laws_szInt64S.f
  rw [wrap_of _ (by omega) (by omega)]
  split <;> rfl
theorem szSS_l0 (l : List (List Int)) (hw : ∀ r ∈ l, r.length ≤ 9223372036854775807) (hl : l.length ≤ 1048576) : ∀ d k i left, i + d = l.length → d < k → 0 ≤ left → left ≤ 1048576 → ∃ t, laws_szInt64SS.l0 k l left (i : Int) = some t ∧ (t < 0 ∨ (0 ≤ t ∧ t + size2 (l.drop i) = left)) := by
  intro d
  induction d with
  | zero =>
    intro k i left h hk h0 h1
    obtain ⟨k, rfl⟩ : ∃ m, k = m + 1 := ⟨k - 1, by omega⟩
    simp only [laws_szInt64SS.l0]
    rw [if_neg (by omega), List.drop_of_length_le (by omega)]
    exact ⟨left, rfl, .inr ⟨h0, by simp [size2]⟩⟩
  | succ d ih =>
    intro k i left h hk h0 h1
    obtain ⟨k, rfl⟩ : ∃ m, k = m + 1 := ⟨k - 1, by omega⟩
    simp only [laws_szInt64SS.l0]
    rw [if_pos (by omega), if_pos (by omega), rdR_nat l i (by omega), szS_f _ _ h0 h1 (hw _ (List.getElem_mem (by omega))), Option.bind_some, List.drop_eq_getElem_cons (show i < l.length by omega), wrap_nat _ (by omega)]
    by_cases hn : left - (l[i].length : Int) < 0
    · rw [if_pos hn, if_pos (by omega)]
      exact ⟨-1, rfl, .inl (by omega)⟩
    · rw [if_neg hn, if_neg hn]
      obtain ⟨t, ht, h2⟩ := ih k (i + 1) (left - l[i].length) (by omega) (by omega) (by omega) (by omega)
      refine ⟨t, ht, ?_⟩
      simp only [size2]
      omega
theorem szSS_f (k : Nat) (l : List (List Int)) (left : Int) (hw : ∀ r ∈ l, r.length ≤ 9223372036854775807) (hl : l.length ≤ 9223372036854775807) (hk : 1048576 < k) (h0 : 0 ≤ left) (h1 : left ≤ 1048576) : ∃ t, laws_szInt64SS.f k l left = some t ∧ (t < 0 ∨ (0 ≤ t ∧ t + size2 l + l.length = left)) := by
  unfold laws_szInt64SS.f
  rw [wrap_of _ (by omega) (by omega)]
  by_cases hn : left - (l.length : Int) < 0
  · rw [if_pos hn]; exact ⟨-1, rfl, .inl (by omega)⟩
  · rw [if_neg hn]
    obtain ⟨t, ht, h2⟩ := szSS_l0 l hw (by omega) l.length k 0 (left - l.length) (by omega) (by omega) (by omega) (by omega)
    refine ⟨t, ht, ?_⟩
    rw [List.drop_zero] at h2
    omega
theorem take_setA {α : Type} (x : List α) (i : Nat) (a : α) (h : i < x.length) : (x.set i a).take (i + 1) = x.take i ++ [a] := by
  rw [List.take_succ_eq_append_getElem (by simpa using h)]
  simp [List.take_set_of_le]
theorem toSS_l0 (l : List (List Int)) (hl : l.length ≤ 1048576) (hs : size2 l ≤ 1048576) : ∀ d k i (x : List (List Int)), i + d = l.length → d + 1048577 < k → x.length = l.length → laws_toInt64SS.l0 k l x (i : Int) = some (x.take i ++ l.drop i) := by
  intro d
  induction d with
  | zero =>
    intro k i x h hk hx
    obtain ⟨k, rfl⟩ : ∃ m, k = m + 1 := ⟨k - 1, by omega⟩
    simp only [laws_toInt64SS.l0]
    rw [if_neg (by omega), List.drop_of_length_le (by omega), List.take_of_length_le (by omega), List.append_nil]
  | succ d ih =>
    intro k i x h hk hx
    obtain ⟨k, rfl⟩ : ∃ m, k = m + 1 := ⟨k - 1, by omega⟩
    have hm := size2_mem (List.getElem_mem (show i < l.length by omega))
    simp only [laws_toInt64SS.l0]
    rw [if_pos (by omega), if_pos (by omega), rdR_nat l i (by omega), toInt64S_f k l[i] (by omega) (by omega), Option.bind_some, if_pos (by omega), wrap_nat _ (by omega), ih k (i + 1) _ (by omega) (by omega) (by simpa using hx), Int.toNat_natCast, take_setA x i _ (by omega), List.append_assoc, List.drop_eq_getElem_cons (show i < l.length by omega)]
    rfl
theorem toSS_f (k : Nat) (l : List (List Int)) (hl : l.length ≤ 1048576) (hs : size2 l ≤ 1048576) (hk : 2500000 ≤ k) : laws_toInt64SS.f k l = some l := by
  unfold laws_toInt64SS.f
  rw [if_pos (by omega), if_pos (by omega)]
  have := toSS_l0 l hl hs l.length k 0 (List.replicate ((l.length : Int)).toNat []) (by omega) (by omega) (by simp)
  simpa using this
theorem eqSS_l0 (l : List (List Int)) (hl : l.length ≤ 1048576) (hs : size2 l ≤ 1048576) : ∀ d k i, i + d = l.length → d + 1048577 < k → laws_eqInt64SS.l0 k l l (i : Int) = some true := by
  intro d
  induction d with
  | zero =>
    intro k i h hk
    obtain ⟨k, rfl⟩ : ∃ m, k = m + 1 := ⟨k - 1, by omega⟩
    simp only [laws_eqInt64SS.l0]
    rw [if_neg (by omega)]
  | succ d ih =>
    intro k i h hk
    obtain ⟨k, rfl⟩ : ∃ m, k = m + 1 := ⟨k - 1, by omega⟩
    have hm := size2_mem (List.getElem_mem (show i < l.length by omega))
    simp only [laws_eqInt64SS.l0]
    rw [if_pos (by omega), if_pos (by omega), if_pos (by omega), rdR_nat l i (by omega), eqInt64S_f k l[i] (by omega) (by omega), Option.bind_some, if_pos rfl, wrap_nat _ (by omega), ih k (i + 1) (by omega) (by omega)]
theorem eqSS_f (k : Nat) (l : List (List Int)) (hl : l.length ≤ 1048576) (hs : size2 l ≤ 1048576) (hk : 2500000 ≤ k) : laws_eqInt64SS.f k l l = some true := by
  unfold laws_eqInt64SS.f
  rw [if_pos rfl]
  exact eqSS_l0 l hl hs l.length k 0 (by omega) (by omega)
theorem spec_l01In_f (n lo hi : Int) : spec_l01In.f n lo hi = some (decide (lo ≤ n) && decide (n ≤ hi)) := by
  unfold spec_l01In.f
  by_cases h : n ≥ lo
  · rw [if_pos h]; simp [show lo ≤ n from h]
  · rw [if_neg h]; simp [show ¬ lo ≤ n from h]


end Go.Proofs.Ytcklefgkbddlhaa.Pure
