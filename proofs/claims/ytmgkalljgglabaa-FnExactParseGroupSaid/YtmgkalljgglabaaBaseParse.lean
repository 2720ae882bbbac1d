/- Plain lemmas on reading texts of group words. -/
import Derived.Test.YtmgkalljgglabaaPx7
import Derived.Test.YtmgkalljgglabaaBaseGroup
namespace Go.Proofs.Ytmgkalljgglabaa.Pure
open Go.RowKit Go.Proofs.Ytmgkalljgglabaa.P Go.Proofs.YtmgkalljgglabaaW.PrintWords Go.Proofs.YtmgkalljgglabaaW.PrintLast
set_option linter.unusedVariables false
set_option linter.unusedSimpArgs false

/-- What is read from place i on, n bytes. -/
def parseGo (d : Int) (s : ByteArray) : Nat → Nat → List Int → List Int × Int
  | 0, _, x => if isGroup d x = true then (x, 0) else ([], 6)
  | n + 1, i, x =>
    if bt s i ≥ 97 ∧ bt s i ≤ 99 then parseGo d s n (i + 1) (x ++ [((bt s i - 97) % 256) + 1])
    else if bt s i ≥ 65 ∧ bt s i ≤ 67 then parseGo d s n (i + 1) (x ++ [(-((bt s i - 65) % 256)) - 1]) else ([], 6)
theorem parseGo_long (d : Int) (s : ByteArray) : ∀ n i x, 12 < x.length + n → parseGo d s n i x = ([], 6) := by
  intro n
  induction n with
  | zero =>
    intro i x h
    unfold parseGo
    rw [if_neg (fun hg => by have := isGroup_length hg; omega)]
  | succ n ih =>
    intro i x h
    unfold parseGo
    split
    · exact ih _ _ (by simp; omega)
    · split
      · exact ih _ _ (by simp; omega)
      · rfl
theorem parseGo_length (d : Int) (s : ByteArray) : ∀ n i x, (parseGo d s n i x).1.length ≤ x.length + n := by
  intro n
  induction n with
  | zero => intro i x; unfold parseGo; split <;> simp
  | succ n ih =>
    intro i x
    unfold parseGo
    split
    · have := ih (i + 1) (x ++ [((bt s i - 97) % 256) + 1]); simp at this; omega
    · split
      · have := ih (i + 1) (x ++ [(-((bt s i - 65) % 256)) - 1]); simp at this; omega
      · simp
theorem spec_ParseGroup_l0 (d : Int) (s : ByteArray) (hs : s.size ≤ 4000000) : ∀ n k i x, i + n = s.size → 2 * n + 30 < k → x.length ≤ i → spec_ParseGroup.l0 k d s x (i : Int) = some (parseGo d s n i x) := by
  intro n
  induction n with
  | zero =>
    intro k i x h hk hx
    obtain ⟨k, rfl⟩ : ∃ m, k = m + 1 := ⟨k - 1, by omega⟩
    simp only [spec_ParseGroup.l0]
    rw [if_neg (by omega), spec_l09Is_f k d x (by omega), Option.bind_some]
    unfold parseGo
    split <;> rfl
  | succ n ih =>
    intro k i x h hk hx
    obtain ⟨k, rfl⟩ : ∃ m, k = m + 2 := ⟨k - 2, by omega⟩
    unfold parseGo
    simp only [spec_ParseGroup.l0]
    rw [if_pos (by omega), if_pos (by omega)]
    simp only [spec_ParseGroup.j1]
    rw [wrap_nat _ (by omega), if_pos (by omega : x.length < 17592186044416), if_pos (by omega : x.length < 17592186044416)]
    have i1 := ih k (i + 1) (x ++ [((bt s i - 97) % 256) + 1]) (by omega) (by omega) (by simp; omega)
    have i2 := ih k (i + 1) (x ++ [(-((bt s i - 65) % 256)) - 1]) (by omega) (by omega) (by simp; omega)
    rw [i1, i2]
    generalize bt s i = c
    by_cases h1 : c ≥ 97 <;> by_cases h2 : c ≤ 99 <;> by_cases h3 : c ≥ 65 <;> by_cases h4 : c ≤ 67 <;> first | (exfalso; omega) | simp [h1, h2, h3, h4]
theorem impl_ParseGroup_l0 (d : Int) (s : ByteArray) (hs : s.size ≤ 4000000) : ∀ n k i x, i + n = s.size → 2 * n + 30 < k → x.length ≤ i → impl_ParseGroup.l0 k d s x (s.size : Int) (i : Int) = some (parseGo d s n i x) := by
  intro n
  induction n with
  | zero =>
    intro k i x h hk hx
    obtain ⟨k, rfl⟩ : ∃ m, k = m + 1 := ⟨k - 1, by omega⟩
    simp only [impl_ParseGroup.l0]
    rw [if_neg (by omega), impl_IsGroupWord_f, Option.bind_some]
    unfold parseGo
    split <;> rfl
  | succ n ih =>
    intro k i x h hk hx
    obtain ⟨k, rfl⟩ : ∃ m, k = m + 2 := ⟨k - 2, by omega⟩
    unfold parseGo
    simp only [impl_ParseGroup.l0]
    rw [if_pos (by omega), if_pos (by omega), if_pos (by omega)]
    simp only [impl_ParseGroup.j1]
    rw [wrap_nat _ (by omega), if_pos (by omega : x.length < 17592186044416), if_pos (by omega : x.length < 17592186044416)]
    have i1 := ih k (i + 1) (x ++ [((bt s i - 97) % 256) + 1]) (by omega) (by omega) (by simp; omega)
    have i2 := ih k (i + 1) (x ++ [(-((bt s i - 65) % 256)) - 1]) (by omega) (by omega) (by simp; omega)
    rw [i1, i2]
    generalize bt s i = c
    by_cases h1 : c ≥ 97 <;> by_cases h2 : c ≤ 99 <;> by_cases h3 : c ≥ 65 <;> by_cases h4 : c ≤ 67 <;> first | (exfalso; omega) | simp [h1, h2, h3, h4]
/-- What ParseGroup returns. -/
def parseRes (d : Int) (s : ByteArray) : List Int × Int := if (decide (1 ≤ d) && decide (d ≤ 3)) = true then parseGo d s s.size 0 [] else ([], 2)
theorem spec_ParseGroup_f (k : Nat) (d : Int) (s : ByteArray) (hs : s.size ≤ 4000000) (hk : 2 * s.size + 40 < k) : spec_ParseGroup.f k d s = some (parseRes d s) := by
  unfold spec_ParseGroup.f parseRes
  rw [spec_l01In_f, Option.bind_some]
  split
  · have := spec_ParseGroup_l0 d s hs s.size k 0 [] (by omega) (by omega) (by simp); simpa using this
  · rfl
theorem impl_areLetters_f (d : Int) : impl_areLetters.f d = some (decide (1 ≤ d) && decide (d ≤ 3)) := by
  unfold impl_areLetters.f impl_within.f
  by_cases h : d ≥ 1
  · rw [if_pos h]; simp [show 1 ≤ d from h]
  · rw [if_neg h]; simp [show ¬ 1 ≤ d from h]
theorem impl_ParseGroup_f (k : Nat) (d : Int) (s : ByteArray) (hs : s.size ≤ 4000000) (hk : 2 * s.size + 40 < k) : impl_ParseGroup.f k d s = some (parseRes d s) := by
  unfold impl_ParseGroup.f parseRes
  rw [impl_areLetters_f, Option.bind_some]
  split
  · by_cases h12 : (s.size : Int) > 12
    · rw [if_pos h12, parseGo_long d s s.size 0 [] (by simp; omega)]
    · rw [if_neg h12]
      have := impl_ParseGroup_l0 d s hs s.size k 0 [] (by omega) (by omega) (by simp); simpa using this
  · rfl
theorem parseRes_length (d : Int) (s : ByteArray) : (parseRes d s).1.length ≤ s.size := by
  unfold parseRes
  split
  · have := parseGo_length d s s.size 0 []; simpa using this
  · simp

end Go.Proofs.Ytmgkalljgglabaa.Pure
