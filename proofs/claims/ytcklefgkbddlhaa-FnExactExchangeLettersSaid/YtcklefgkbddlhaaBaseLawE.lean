/- Plain lemmas on what the laws do with series that come in: sizes, copies, equality. -/
import Derived.Test.YtcklefgkbddlhaaPx1
import Derived.Test.YtcklefgkbddlhaaPx2
import Derived.Test.YtcklefgkbddlhaaBaseCopiesV
namespace Go.Proofs.Ytcklefgkbddlhaa.Pure
open Go.RowKit Go.Proofs.Ytcklefgkbddlhaa.P Go.Proofs.YtcklefgkbddlhaaW.PrintWords Go.Proofs.YtcklefgkbddlhaaW.PrintLast
set_option linter.unusedVariables false
set_option linter.unusedSimpArgs false

theorem take_setA {α : Type} (x : List α) (i : Nat) (a : α) (h : i < x.length) : (x.set i a).take (i + 1) = x.take i ++ [a] := by
  rw [List.take_succ_eq_append_getElem (by simpa using h)]
  simp [List.take_set_of_le]
theorem rdI_nat' (l : List S89) (i : Nat) (h : i < l.length) : rd_T89 l (i : Int) = l[i] := by simp [rd_T89, List.getD_eq_getElem?_getD, h]
theorem rdL_nat (l : List S124) (i : Nat) (h : i < l.length) : rd_T124 l (i : Int) = l[i] := by simp [rd_T124, List.getD_eq_getElem?_getD, h]
/-- A term of the laws as one of the program. -/
def tmOf (x : S124) : S89 := ⟨x.f0, ⟨x.f1.f0, x.f1.f1⟩⟩
theorem toTermS_l0 (l : List S124) (hl : l.length ≤ 1048576) : ∀ d k i (x : List S89), i + d = l.length → d < k → x.length = l.length → laws_toTermS.l0 k l x (i : Int) = some (x.take i ++ (l.drop i).map tmOf) := by
  intro d
  induction d with
  | zero =>
    intro k i x h hk hx
    obtain ⟨k, rfl⟩ : ∃ m, k = m + 1 := ⟨k - 1, by omega⟩
    simp only [laws_toTermS.l0]
    rw [if_neg (by omega), List.drop_of_length_le (by omega), List.take_of_length_le (by omega), List.map_nil, List.append_nil]
  | succ d ih =>
    intro k i x h hk hx
    obtain ⟨k, rfl⟩ : ∃ m, k = m + 1 := ⟨k - 1, by omega⟩
    simp only [laws_toTermS.l0]
    rw [if_pos (by omega), if_pos (by omega), rdL_nat l i (by omega)]
    unfold laws_toTerm.f laws_toFraction.f
    simp only [Option.bind_some]
    rw [if_pos (by omega), wrap_nat _ (by omega), ih k (i + 1) _ (by omega) (by omega) (by simpa using hx), Int.toNat_natCast, take_setA x i _ (by omega), List.append_assoc, List.drop_eq_getElem_cons (show i < l.length by omega)]
    rfl
theorem toTermS_f (k : Nat) (l : List S124) (hl : l.length ≤ 1048576) (hk : l.length < k) : laws_toTermS.f k l = some (l.map tmOf) := by
  unfold laws_toTermS.f
  rw [if_pos (by omega), if_pos (by omega)]
  have := toTermS_l0 l hl l.length k 0 (List.replicate ((l.length : Int)).toNat z89) (by omega) hk (by simp)
  simpa using this
theorem toSeries_f (k : Nat) (d n : Int) (l : List S124) (hl : l.length ≤ 1048576) (hk : l.length < k) : laws_toSeries.f k d n l = some (d, n, l.map tmOf) := by
  unfold laws_toSeries.f
  rw [toTermS_f k l hl hk, Option.bind_some]
theorem eqTermS_l0 (l : List S89) (hl : l.length ≤ 1048576) : ∀ d k i, i + d = l.length → d < k → laws_eqTermS.l0 k l l (i : Int) = some true := by
  intro d
  induction d with
  | zero =>
    intro k i h hk
    obtain ⟨k, rfl⟩ : ∃ m, k = m + 1 := ⟨k - 1, by omega⟩
    simp only [laws_eqTermS.l0]
    rw [if_neg (by omega)]
  | succ d ih =>
    intro k i h hk
    obtain ⟨k, rfl⟩ : ∃ m, k = m + 1 := ⟨k - 1, by omega⟩
    simp only [laws_eqTermS.l0]
    rw [if_pos (by omega), if_pos (by omega), if_pos (by omega), wrap_nat _ (by omega), ih k (i + 1) (by omega) (by omega)]
    unfold laws_eqTerm.f laws_eqFraction.f
    simp
theorem eqTermS_f (k : Nat) (l : List S89) (hl : l.length ≤ 1048576) (hk : l.length < k) : laws_eqTermS.f k l l = some true := by
  unfold laws_eqTermS.f
  rw [if_pos rfl]
  exact eqTermS_l0 l hl l.length k 0 (by omega) hk
theorem eqSeries_f (k : Nat) (d n : Int) (l : List S89) (hl : l.length ≤ 1048576) (hk : l.length < k) : laws_eqSeries.f k d n l d n l = some true := by
  unfold laws_eqSeries.f
  rw [if_pos rfl, if_pos rfl, eqTermS_f k l hl hk]
  rfl
/-- What has not run out. -/
def Left (t : Int) (l : List S124) (left : Int) : Prop := t < 0 ∨ (0 ≤ t ∧ t ≤ left ∧ ∀ x ∈ l, (x.f0.size : Int) ≤ left)
theorem szTermS_l0 (l : List S124) (hw : ∀ x ∈ l, x.f0.size ≤ maxLen) (hl : l.length ≤ 1048576) : ∀ d k i left, i + d = l.length → d < k → 0 ≤ left → left ≤ 1048576 → ∃ t, laws_szTermS.l0 k l left (i : Int) = some t ∧ Left t (l.drop i) left := by
  have hM : maxLen = 9223372036854775807 := rfl
  intro d
  induction d with
  | zero =>
    intro k i left h hk h0 h1
    obtain ⟨k, rfl⟩ : ∃ m, k = m + 1 := ⟨k - 1, by omega⟩
    refine ⟨left, ?_, .inr ⟨h0, Int.le_refl _, ?_⟩⟩
    · simp only [laws_szTermS.l0]
      rw [if_neg (by omega)]
    · rw [List.drop_of_length_le (by omega)]
      intro x hx; cases hx
  | succ d ih =>
    intro k i left h hk h0 h1
    obtain ⟨k, rfl⟩ : ∃ m, k = m + 1 := ⟨k - 1, by omega⟩
    have hi : i < l.length := by omega
    have hs := hw l[i] (List.getElem_mem _)
    have hwr : wrap64 (left - (l[i].f0.size : Int)) = left - (l[i].f0.size : Int) := wrap_of _ (by omega) (by omega)
    simp only [laws_szTermS.l0]
    rw [if_pos (by omega), if_pos (by omega), rdL_nat l i hi]
    unfold laws_szTerm.f
    rw [hwr]
    by_cases hc : left - (l[i].f0.size : Int) < 0
    · refine ⟨-1, ?_, .inl (by decide)⟩
      rw [if_pos hc, Option.bind_some, if_pos (by decide)]
    · obtain ⟨t, ht, hL⟩ := ih k (i + 1) (left - (l[i].f0.size : Int)) (by omega) (by omega) (by omega) (by omega)
      refine ⟨t, ?_, ?_⟩
      · rw [if_neg hc, Option.bind_some, if_neg (by omega), wrap_nat _ (by omega)]
        exact ht
      · rcases hL with hL | ⟨a, b, c⟩
        · exact .inl hL
        · refine .inr ⟨a, by omega, ?_⟩
          rw [List.drop_eq_getElem_cons hi]
          intro x hx
          rcases List.mem_cons.1 hx with rfl | hx
          · omega
          · have := c x hx; omega
theorem szTermS_f (k : Nat) (l : List S124) (left : Int) (hw : ∀ x ∈ l, x.f0.size ≤ maxLen) (hl : l.length ≤ maxLen) (hk : 1048576 < k) (h0 : 0 ≤ left) (h1 : left ≤ 1048576) :
    ∃ t, laws_szTermS.f k l left = some t ∧ (t < 0 ∨ (0 ≤ t ∧ t + (l.length : Int) ≤ left ∧ (l.length : Int) ≤ left ∧ ∀ x ∈ l, (x.f0.size : Int) ≤ left)) := by
  have hM : maxLen = 9223372036854775807 := rfl
  unfold laws_szTermS.f
  rw [wrap_of _ (by omega) (by omega)]
  by_cases hc : left - (l.length : Int) < 0
  · exact ⟨-1, by rw [if_pos hc], .inl (by decide)⟩
  · obtain ⟨t, ht, hL⟩ := szTermS_l0 l hw (by omega) l.length k 0 (left - (l.length : Int)) (by omega) (by omega) (by omega) (by omega)
    refine ⟨t, by rw [if_neg hc]; exact ht, ?_⟩
    rcases hL with hL | ⟨a, b, c⟩
    · exact .inl hL
    · refine .inr ⟨a, by omega, by omega, fun x hx => ?_⟩
      have := c x (by rw [List.drop_zero]; exact hx)
      omega
theorem szSeries_f (k : Nat) (d n : Int) (l : List S124) (left : Int) (hw : ∀ x ∈ l, x.f0.size ≤ maxLen) (hl : l.length ≤ maxLen) (hk : 1048576 < k) (h0 : 0 ≤ left) (h1 : left ≤ 1048576) :
    ∃ t, laws_szSeries.f k d n l left = some t ∧ (t < 0 ∨ (0 ≤ t ∧ t + (l.length : Int) ≤ left ∧ (l.length : Int) ≤ left ∧ ∀ x ∈ l, (x.f0.size : Int) ≤ left)) := by
  obtain ⟨t, ht, h⟩ := szTermS_f k l left hw hl hk h0 h1
  unfold laws_szSeries.f
  rw [ht, Option.bind_some]
  by_cases hc : t < 0
  · exact ⟨-1, by rw [if_pos hc], .inl (by decide)⟩
  · exact ⟨t, by rw [if_neg hc], h⟩
theorem tmOf_mem {l : List S124} {m : Nat} (h : ∀ x ∈ l, (x.f0.size : Int) ≤ m) : ∀ t ∈ l.map tmOf, t.f0.size ≤ m := by
  intro t ht
  obtain ⟨x, hx, rfl⟩ := List.mem_map.1 ht
  have := h x hx
  show x.f0.size ≤ m
  omega
end Go.Proofs.Ytcklefgkbddlhaa.Pure
