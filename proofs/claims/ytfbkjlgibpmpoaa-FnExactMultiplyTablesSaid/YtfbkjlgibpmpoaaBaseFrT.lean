/- Plain lemmas on rows of fractions that come in: sizes, copies. -/
import Derived.Test.YtfbkjlgibpmpoaaPx5
import Derived.Test.YtfbkjlgibpmpoaaPx1
import Derived.Test.YtfbkjlgibpmpoaaBaseFrM
namespace Go.Proofs.Ytfbkjlgibpmpoaa.Pure
open Go.RowKit Go.Proofs.Ytfbkjlgibpmpoaa.P Go.Proofs.YtfbkjlgibpmpoaaW.PrintWords Go.Proofs.YtfbkjlgibpmpoaaW.PrintLast
set_option linter.unusedVariables false
set_option linter.unusedSimpArgs false

theorem rdLL_nat (l : List (List S129)) (i : Nat) (h : i < l.length) : rd_L2 l (i : Int) = l[i] := by simp [rd_L2, List.getD_eq_getElem?_getD, h]
theorem rdLF_nat (l : List S129) (i : Nat) (h : i < l.length) : rd_T129 l (i : Int) = l[i] := by simp [rd_T129, List.getD_eq_getElem?_getD, h]
/-- How much rows hold, and how much tables hold. -/
def sizeL : List (List S129) → Nat
  | [] => 0
  | r :: l => r.length + sizeL l
theorem sizeL_mem {l : List (List S129)} {r : List S129} (h : r ∈ l) : r.length ≤ sizeL l := by
  induction l with
  | nil => cases h
  | cons a l ih =>
    simp only [sizeL]
    rcases List.mem_cons.1 h with h | h
    · subst h; omega
    · have := ih h; omega
theorem szFS_f (r : List S129) (left : Int) (h0 : 0 ≤ left) (h1 : left ≤ 1048576) (hr : r.length ≤ 9223372036854775807) : laws_szFractionS.f r left = some (if left - r.length < 0 then -1 else left - r.length) := by
  unfold laws_szFractionS.f
  rw [wrap_of _ (by omega) (by omega)]
  split <;> rfl
theorem szFSS_l0 (l : List (List S129)) (hw : ∀ r ∈ l, r.length ≤ 9223372036854775807) (hl : l.length ≤ 1048576) : ∀ d k i left, i + d = l.length → d < k → 0 ≤ left → left ≤ 1048576 → ∃ t, laws_szFractionSS.l0 k l left (i : Int) = some t ∧ (t < 0 ∨ (0 ≤ t ∧ t + sizeL (l.drop i) = left)) := by
  intro d
  induction d with
  | zero =>
    intro k i left h hk h0 h1
    obtain ⟨k, rfl⟩ : ∃ m, k = m + 1 := ⟨k - 1, by omega⟩
    simp only [laws_szFractionSS.l0]
    rw [if_neg (by omega), List.drop_of_length_le (by omega)]
    exact ⟨left, rfl, .inr ⟨h0, by simp [sizeL]⟩⟩
  | succ d ih =>
    intro k i left h hk h0 h1
    obtain ⟨k, rfl⟩ : ∃ m, k = m + 1 := ⟨k - 1, by omega⟩
    simp only [laws_szFractionSS.l0]
    rw [if_pos (by omega), if_pos (by omega), rdLL_nat l i (by omega), szFS_f _ _ h0 h1 (hw _ (List.getElem_mem (by omega))), Option.bind_some, List.drop_eq_getElem_cons (show i < l.length by omega), wrap_nat _ (by omega)]
    by_cases hn : left - (l[i].length : Int) < 0
    · rw [if_pos hn, if_pos (by omega)]
      exact ⟨-1, rfl, .inl (by omega)⟩
    · rw [if_neg hn, if_neg hn]
      obtain ⟨t, ht, h2⟩ := ih k (i + 1) (left - l[i].length) (by omega) (by omega) (by omega) (by omega)
      refine ⟨t, ht, ?_⟩
      simp only [sizeL]
      omega
theorem szFSS_f (k : Nat) (l : List (List S129)) (left : Int) (hw : ∀ r ∈ l, r.length ≤ 9223372036854775807) (hl : l.length ≤ 9223372036854775807) (hk : 1048576 < k) (h0 : 0 ≤ left) (h1 : left ≤ 1048576) : ∃ t, laws_szFractionSS.f k l left = some t ∧ (t < 0 ∨ (0 ≤ t ∧ t + sizeL l + l.length = left)) := by
  unfold laws_szFractionSS.f
  rw [wrap_of _ (by omega) (by omega)]
  by_cases hn : left - (l.length : Int) < 0
  · rw [if_pos hn]; exact ⟨-1, rfl, .inl (by omega)⟩
  · rw [if_neg hn]
    obtain ⟨t, ht, h2⟩ := szFSS_l0 l hw (by omega) l.length k 0 (left - l.length) (by omega) (by omega) (by omega) (by omega)
    refine ⟨t, ht, ?_⟩
    rw [List.drop_zero] at h2
    omega
theorem take_setT {α : Type} (x : List α) (i : Nat) (a : α) (h : i < x.length) : (x.set i a).take (i + 1) = x.take i ++ [a] := by
  rw [List.take_succ_eq_append_getElem (by simpa using h)]
  simp [List.take_set_of_le]
/-- A fraction of the laws as one of the program. -/
def frOf (x : S129) : S79 := ⟨x.f0, x.f1⟩
theorem toFS_l0 (l : List S129) (hl : l.length ≤ 1048576) : ∀ d k i (x : List S79), i + d = l.length → d < k → x.length = l.length → laws_toFractionS.l0 k l x (i : Int) = some (x.take i ++ (l.drop i).map frOf) := by
  intro d
  induction d with
  | zero =>
    intro k i x h hk hx
    obtain ⟨k, rfl⟩ : ∃ m, k = m + 1 := ⟨k - 1, by omega⟩
    simp only [laws_toFractionS.l0]
    rw [if_neg (by omega), List.drop_of_length_le (by omega), List.take_of_length_le (by omega)]
    simp
  | succ d ih =>
    intro k i x h hk hx
    obtain ⟨k, rfl⟩ : ∃ m, k = m + 1 := ⟨k - 1, by omega⟩
    simp only [laws_toFractionS.l0]
    unfold laws_toFraction.f
    rw [if_pos (by omega), if_pos (by omega), Option.bind_some, if_pos (by omega), wrap_nat _ (by omega), ih k (i + 1) _ (by omega) (by omega) (by simpa using hx), rdLF_nat l i (by omega), Int.toNat_natCast, take_setT x i _ (by omega), List.append_assoc, List.drop_eq_getElem_cons (show i < l.length by omega)]
    rfl
theorem toFS_f (k : Nat) (l : List S129) (hl : l.length ≤ 1048576) (hk : l.length < k) : laws_toFractionS.f k l = some (l.map frOf) := by
  unfold laws_toFractionS.f
  rw [if_pos (by omega), if_pos (by omega)]
  have := toFS_l0 l hl l.length k 0 (List.replicate ((l.length : Int)).toNat z79) (by omega) hk (by simp)
  simpa using this
theorem toFSS_l0 (l : List (List S129)) (hl : l.length ≤ 1048576) (hs : sizeL l ≤ 1048576) : ∀ d k i (x : List (List S79)), i + d = l.length → d + 1048577 < k → x.length = l.length → laws_toFractionSS.l0 k l x (i : Int) = some (x.take i ++ (l.drop i).map (List.map frOf)) := by
  intro d
  induction d with
  | zero =>
    intro k i x h hk hx
    obtain ⟨k, rfl⟩ : ∃ m, k = m + 1 := ⟨k - 1, by omega⟩
    simp only [laws_toFractionSS.l0]
    rw [if_neg (by omega), List.drop_of_length_le (by omega), List.take_of_length_le (by omega)]
    simp
  | succ d ih =>
    intro k i x h hk hx
    obtain ⟨k, rfl⟩ : ∃ m, k = m + 1 := ⟨k - 1, by omega⟩
    have hm := sizeL_mem (List.getElem_mem (show i < l.length by omega))
    simp only [laws_toFractionSS.l0]
    rw [if_pos (by omega), if_pos (by omega), rdLL_nat l i (by omega), toFS_f k l[i] (by omega) (by omega), Option.bind_some, if_pos (by omega), wrap_nat _ (by omega), ih k (i + 1) _ (by omega) (by omega) (by simpa using hx), Int.toNat_natCast, take_setT x i _ (by omega), List.append_assoc, List.drop_eq_getElem_cons (show i < l.length by omega)]
    rfl
theorem toFSS_f (k : Nat) (l : List (List S129)) (hl : l.length ≤ 1048576) (hs : sizeL l ≤ 1048576) (hk : 2500000 ≤ k) : laws_toFractionSS.f k l = some (l.map (List.map frOf)) := by
  unfold laws_toFractionSS.f
  rw [if_pos (by omega), if_pos (by omega)]
  have := toFSS_l0 l hl hs l.length k 0 (List.replicate ((l.length : Int)).toNat []) (by omega) (by omega) (by simp)
  simpa using this
theorem totF_map (l : List (List S129)) : totF (l.map (List.map frOf)) = sizeL l := by
  induction l with
  | nil => rfl
  | cons r l ih => simp only [List.map_cons, totF, sizeL, ih, List.length_map]
end Go.Proofs.Ytfbkjlgibpmpoaa.Pure
