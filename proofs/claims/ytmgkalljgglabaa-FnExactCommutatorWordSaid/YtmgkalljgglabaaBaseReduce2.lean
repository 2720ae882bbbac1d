/- Plain lemmas on reduced words. -/
import Derived.Test.YtmgkalljgglabaaPx2
import Derived.Test.YtmgkalljgglabaaPx3
import Derived.Test.YtmgkalljgglabaaBaseGroup2
namespace Go.Proofs.Ytmgkalljgglabaa.Pure
open Go.RowKit Go.Proofs.Ytmgkalljgglabaa.P Go.Proofs.YtmgkalljgglabaaW.PrintWords Go.Proofs.YtmgkalljgglabaaW.PrintLast
set_option linter.unusedVariables false
set_option linter.unusedSimpArgs false

/-- One number more behind a reduced word. -/
def redStep (out : List Int) (n : Int) : List Int :=
  if out.length > 0 ∧ rd out ((out.length : Int) - 1) = wrap64 (-n) then out.take (out.length - 1) else out ++ [n]
def redW (l : List Int) : List Int := l.foldl redStep []
theorem redStep_length (out : List Int) (n : Int) : (redStep out n).length ≤ out.length + 1 := by
  unfold redStep
  split
  · simp only [List.length_take]; omega
  · simp
theorem redFold_length (l : List Int) : ∀ out : List Int, (l.foldl redStep out).length ≤ out.length + l.length := by
  induction l with
  | nil => intro out; simp
  | cons a l ih => intro out; have := ih (redStep out a); have := redStep_length out a; simp only [List.foldl_cons, List.length_cons]; omega
theorem redW_length (l : List Int) : (redW l).length ≤ l.length := by have := redFold_length l []; simpa [redW] using this
theorem spec_l09Reduce_l0 (l : List Int) (hl : l.length ≤ 4000000) : ∀ d k i (x : List Int), i + d = l.length → d < k → x.length ≤ i → spec_l09Reduce.l0 k l x (i : Int) = some ((l.drop i).foldl redStep x) := by
  intro d
  induction d with
  | zero =>
    intro k i x h hk hx
    obtain ⟨k, rfl⟩ : ∃ m, k = m + 1 := ⟨k - 1, by omega⟩
    simp only [spec_l09Reduce.l0]
    rw [if_neg (by omega), List.drop_of_length_le (by omega)]
    rfl
  | succ d ih =>
    intro k i x h hk hx
    obtain ⟨k, rfl⟩ : ∃ m, k = m + 1 := ⟨k - 1, by omega⟩
    have hs := redStep_length x l[i]
    simp only [spec_l09Reduce.l0]
    rw [if_pos (by omega), List.drop_eq_getElem_cons (show i < l.length by omega), List.foldl_cons, rd_nat l i (by omega), wrap_nat _ (by omega)]
    by_cases h0 : (x.length : Int) > 0
    · rw [if_pos h0, wrap_of ((x.length : Int) - 1) (by omega) (by omega), if_pos (by omega), if_pos (by omega), if_pos (by omega)]
      by_cases h1 : rd x ((x.length : Int) - 1) = wrap64 (-l[i])
      · rw [if_pos h1, if_pos (by omega), ih k (i + 1) _ (by omega) (by omega) (by simp only [List.length_take]; omega)]
        congr 2
        unfold redStep
        rw [if_pos ⟨by omega, h1⟩, show ((x.length : Int) - 1).toNat = x.length - 1 by omega]
      · rw [if_neg h1, if_pos (by omega), ih k (i + 1) _ (by omega) (by omega) (by simp; omega)]
        congr 2
        unfold redStep
        rw [if_neg (fun h => h1 h.2)]
    · rw [if_neg h0, if_pos (by omega), if_pos (by omega), ih k (i + 1) _ (by omega) (by omega) (by simp; omega)]
      congr 2
      unfold redStep
      rw [if_neg (fun h => h0 (by omega))]
theorem spec_l09Reduce_f (k : Nat) (l : List Int) (hl : l.length ≤ 4000000) (hk : l.length < k) : spec_l09Reduce.f k l = some (redW l) := by
  unfold spec_l09Reduce.f
  have := spec_l09Reduce_l0 l hl l.length k 0 [] (by omega) hk (by simp)
  simpa [redW] using this
theorem impl_reduceWord_l0 (l : List Int) (hl : l.length ≤ 4000000) : ∀ d k i (x : List Int), i + d = l.length → d < k → x.length ≤ i → impl_reduceWord.l0 k x l (l.length : Int) (i : Int) = some ((l.drop i).foldl redStep x) := by
  intro d
  induction d with
  | zero =>
    intro k i x h hk hx
    obtain ⟨k, rfl⟩ : ∃ m, k = m + 1 := ⟨k - 1, by omega⟩
    simp only [impl_reduceWord.l0]
    rw [if_neg (by omega), List.drop_of_length_le (by omega)]
    rfl
  | succ d ih =>
    intro k i x h hk hx
    obtain ⟨k, rfl⟩ : ∃ m, k = m + 1 := ⟨k - 1, by omega⟩
    simp only [impl_reduceWord.l0]
    rw [if_pos (by omega), if_pos (by omega), if_pos (by omega), List.drop_eq_getElem_cons (show i < l.length by omega), List.foldl_cons, rd_nat l i (by omega), wrap_nat _ (by omega)]
    by_cases h0 : (x.length : Int) > 0
    · rw [wrap_of ((x.length : Int) - 1) (by omega) (by omega), if_pos (by omega), if_pos (by omega), if_pos (by omega)]
      by_cases h1 : rd x ((x.length : Int) - 1) = wrap64 (-l[i])
      · rw [if_pos h1, if_pos (by omega), ih k (i + 1) _ (by omega) (by omega) (by simp only [List.length_take]; omega)]
        congr 2
        unfold redStep
        rw [if_pos ⟨by omega, h1⟩, show ((x.length : Int) - 1).toNat = x.length - 1 by omega]
      · rw [if_neg h1, if_pos (by omega), ih k (i + 1) _ (by omega) (by omega) (by simp; omega)]
        congr 2
        unfold redStep
        rw [if_neg (fun h => h1 h.2)]
    · rw [wrap_of ((x.length : Int) - 1) (by omega) (by omega), if_neg (by omega), if_pos (by omega), ih k (i + 1) _ (by omega) (by omega) (by simp; omega)]
      congr 2
      unfold redStep
      rw [if_neg (fun h => h0 (by omega))]
theorem impl_reduceWord_f (k : Nat) (l : List Int) (hl : l.length ≤ 4000000) (hk : l.length < k) : impl_reduceWord.f k l = some (redW l) := by
  unfold impl_reduceWord.f
  have := impl_reduceWord_l0 l hl l.length k 0 [] (by omega) hk (by simp)
  simpa [redW] using this

end Go.Proofs.Ytmgkalljgglabaa.Pure
