/- Plain lemmas on the texts of group words. -/
import Derived.Test.YtmgkalljgglabaaPx2
import Derived.Test.YtmgkalljgglabaaPx3
import Derived.Test.YtmgkalljgglabaaBaseGroup
namespace Go.Proofs.Ytmgkalljgglabaa.Pure
open Go.RowKit Go.Proofs.Ytmgkalljgglabaa.P Go.Proofs.YtmgkalljgglabaaW.PrintWords Go.Proofs.YtmgkalljgglabaaW.PrintLast
set_option linter.unusedVariables false
set_option linter.unusedSimpArgs false

/-- The byte of a number of a group word. -/
def chOf (n : Int) : Int := if n > 0 then 96 + n else 64 - n
theorem isGroup_mem {d : Int} {l : List Int} (h : isGroup d l = true) : 1 ≤ d ∧ d ≤ 3 ∧ ∀ x ∈ l, x ≠ 0 ∧ -d ≤ x ∧ x ≤ d := by
  unfold isGroup at h
  simp only [Bool.and_eq_true, decide_eq_true_eq, Bool.not_eq_true', List.any_eq_false, Bool.or_eq_true, not_or] at h
  obtain ⟨⟨⟨h1, h2⟩, _⟩, h3⟩ := h
  refine ⟨h1, h2, fun x hx => ?_⟩
  obtain ⟨h4, h5⟩ := h3 x hx
  have h6 : Hand.upToB x d = true := by
    cases e : Hand.upToB x d
    · rw [e] at h5; simp at h5
    · rfl
  unfold Hand.upToB at h6
  rw [show wrap64 (-d) = -d from by unfold wrap64; omega] at h6
  simp only [Bool.and_eq_true, decide_eq_true_eq] at h6
  exact ⟨h4, h6.1, h6.2⟩
theorem spec_l09Text_l0 (l : List Int) (hl : l.length ≤ 12) (hm : ∀ x ∈ l, x ≠ 0 ∧ -3 ≤ x ∧ x ≤ 3) : ∀ d k i (x : List Int), i + d = l.length → d < k → x.length = i → spec_l09Text.l0 k l x (i : Int) = some (strOfNums (x ++ (l.drop i).map chOf)) := by
  intro d
  induction d with
  | zero =>
    intro k i x h hk hx
    obtain ⟨k, rfl⟩ : ∃ m, k = m + 1 := ⟨k - 1, by omega⟩
    simp only [spec_l09Text.l0]
    rw [if_neg (by omega), List.drop_of_length_le (by omega)]
    simp
  | succ d ih =>
    intro k i x h hk hx
    obtain ⟨k, rfl⟩ : ∃ m, k = m + 1 := ⟨k - 1, by omega⟩
    have hb := hm l[i] (List.getElem_mem (by omega))
    simp only [spec_l09Text.l0]
    rw [if_pos (by omega), if_pos (by omega), rd_nat l i (by omega), wrap_nat _ (by omega), List.drop_eq_getElem_cons (show i < l.length by omega), List.map_cons]
    by_cases h0 : l[i] > 0
    · rw [if_pos h0, if_pos (by omega), ih k (i + 1) _ (by omega) (by omega) (by simp; omega), List.append_assoc, List.singleton_append]
      rw [show wrap64 (wrap64 (97 + l[i]) - 1) % 256 = chOf l[i] from by unfold chOf wrap64; rw [if_pos h0]; omega]
    · rw [if_neg h0, if_pos (by omega), ih k (i + 1) _ (by omega) (by omega) (by simp; omega), List.append_assoc, List.singleton_append]
      rw [show wrap64 (wrap64 (65 - l[i]) - 1) % 256 = chOf l[i] from by unfold chOf wrap64; rw [if_neg h0]; omega]
theorem impl_GroupText_l0 (l : List Int) (hl : l.length ≤ 12) (hm : ∀ x ∈ l, x ≠ 0 ∧ -3 ≤ x ∧ x ≤ 3) : ∀ d k i (x : List Int), i + d = l.length → d < k → x.length = l.length → impl_GroupText.l0 k x l (l.length : Int) (i : Int) = some (strOfNums (x.take i ++ (l.drop i).map chOf), 0) := by
  intro d
  induction d with
  | zero =>
    intro k i x h hk hx
    obtain ⟨k, rfl⟩ : ∃ m, k = m + 1 := ⟨k - 1, by omega⟩
    simp only [impl_GroupText.l0]
    rw [if_neg (by omega), List.drop_of_length_le (by omega), List.take_of_length_le (by omega)]
    simp
  | succ d ih =>
    intro k i x h hk hx
    obtain ⟨k, rfl⟩ : ∃ m, k = m + 1 := ⟨k - 1, by omega⟩
    have hb := hm l[i] (List.getElem_mem (by omega))
    simp only [impl_GroupText.l0, impl_size.f, Option.bind_some]
    rw [if_pos (by omega), if_pos (by omega), if_pos (by omega), rd_nat l i (by omega), wrap_nat _ (by omega), List.drop_eq_getElem_cons (show i < l.length by omega), List.map_cons, Int.toNat_natCast]
    by_cases h0 : l[i] < 0
    · rw [if_pos h0, if_pos (by omega), ih k (i + 1) _ (by omega) (by omega) (by simpa using hx), take_set x i _ (by omega), List.append_assoc, List.singleton_append]
      rw [show (65 + wrap64 (mx l[i] (wrap64 (-l[i])) - 1) % 256) % 256 = chOf l[i] from by unfold chOf mx wrap64; rw [if_neg (show ¬ l[i] > 0 by omega)]; omega]
    · rw [if_neg h0, if_pos (by omega), ih k (i + 1) _ (by omega) (by omega) (by simpa using hx), take_set x i _ (by omega), List.append_assoc, List.singleton_append]
      rw [show (97 + wrap64 (mx l[i] (wrap64 (-l[i])) - 1) % 256) % 256 = chOf l[i] from by unfold chOf mx wrap64; rw [if_pos (show l[i] > 0 by omega)]; omega]
/-- What GroupText returns. -/
def textRes (d : Int) (l : List Int) : ByteArray × Int := if isGroup d l = true then (strOfNums (l.map chOf), 0) else (⟨#[]⟩, 2)
theorem spec_GroupText_f (k : Nat) (d : Int) (l : List Int) (hk : 40 ≤ k) : spec_GroupText.f k d l = some (textRes d l) := by
  unfold spec_GroupText.f textRes
  rw [spec_l09Is_f k d l (by omega), Option.bind_some]
  split
  · next h =>
    have hl := isGroup_length h
    obtain ⟨h1, h2, hm⟩ := isGroup_mem h
    unfold spec_l09Text.f
    have := spec_l09Text_l0 l hl (fun x hx => by have := hm x hx; omega) l.length k 0 [] (by omega) (by omega) rfl
    rw [show ((0 : Nat) : Int) = 0 from rfl] at this
    rw [this]; rfl
  · rfl
theorem impl_GroupText_f (k : Nat) (d : Int) (l : List Int) (hk : 40 ≤ k) : impl_GroupText.f k d l = some (textRes d l) := by
  unfold impl_GroupText.f textRes
  rw [impl_IsGroupWord_f, Option.bind_some]
  split
  · next h =>
    have hl := isGroup_length h
    obtain ⟨h1, h2, hm⟩ := isGroup_mem h
    rw [if_pos (by omega), if_pos (by omega)]
    have := impl_GroupText_l0 l hl (fun x hx => by have := hm x hx; omega) l.length k 0 (List.replicate ((l.length : Int)).toNat 0) (by omega) (by omega) (by simp)
    rw [show ((0 : Nat) : Int) = 0 from rfl] at this
    rw [this]; rfl
  · rfl

end Go.Proofs.Ytmgkalljgglabaa.Pure
