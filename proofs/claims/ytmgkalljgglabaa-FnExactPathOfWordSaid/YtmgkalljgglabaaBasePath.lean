/- Plain lemmas on paths of group words. -/
import Derived.Test.YtmgkalljgglabaaPx11
import Derived.Test.YtmgkalljgglabaaBaseLetters
import Derived.Test.YtmgkalljgglabaaNest
namespace Go.Proofs.Ytmgkalljgglabaa.Pure
open Go.RowKit Go.Proofs.Ytmgkalljgglabaa.P Go.Proofs.Ytmgkalljgglabaa.Nest Go.Proofs.YtmgkalljgglabaaW.PrintWords Go.Proofs.YtmgkalljgglabaaW.PrintLast
set_option linter.unusedVariables false
set_option linter.unusedSimpArgs false

theorem spec_l09Path_l0 (d : Int) (hd : 1 ≤ d) (hd3 : d ≤ 3) (l : List Int) (hl : l.length ≤ 12) (hm : ∀ x ∈ l, x ≠ 0 ∧ -d ≤ x ∧ x ≤ d) : ∀ n k i (x : List (List Int)), i + n = l.length → n < k → x.length = i → spec_l09Path.l0 k d l x (i : Int) = some (x ++ (l.drop i).map (stepOf d)) := by
  intro n
  induction n with
  | zero =>
    intro k i x h hk hx
    obtain ⟨k, rfl⟩ : ∃ m, k = m + 1 := ⟨k - 1, by omega⟩
    simp only [spec_l09Path.l0]
    rw [if_neg (by omega), List.drop_of_length_le (by omega)]
    simp
  | succ n ih =>
    intro k i x h hk hx
    obtain ⟨k, rfl⟩ : ∃ m, k = m + 1 := ⟨k - 1, by omega⟩
    have hb := hm l[i] (List.getElem_mem (by omega))
    simp only [spec_l09Path.l0, Option.bind_some]
    rw [if_pos (by omega), if_pos (by omega), if_pos (by omega), if_pos (by omega), rd_nat l i (by omega), wrap_nat _ (by omega), wrap_of (l[i] - 1) (by omega) (by omega), wrap_of (-l[i]) (by omega) (by omega), wrap_of (-l[i] - 1) (by omega) (by omega), List.drop_eq_getElem_cons (show i < l.length by omega), List.map_cons]
    by_cases h0 : l[i] > 0
    · rw [if_pos h0, if_pos (by omega), if_pos (by simp; omega), if_pos (by omega), ih k (i + 1) _ (by omega) (by omega) (by simp [hx])]
      have e : stepOf d l[i] = (List.replicate d.toNat 0).set (l[i] - 1).toNat 1 := by unfold stepOf mx; rw [if_pos h0]; congr 2; split <;> omega
      rw [e]; simp
    · rw [if_neg h0, if_pos (by omega), if_pos (by simp; omega), if_pos (by omega), ih k (i + 1) _ (by omega) (by omega) (by simp [hx])]
      have e : stepOf d l[i] = (List.replicate d.toNat 0).set (-l[i] - 1).toNat (-1) := by unfold stepOf mx; rw [if_neg h0]; congr 2; split <;> omega
      rw [e]; simp
/-- What PathOfWord returns. -/
def pathRes (d : Int) (l : List Int) : List (List Int) × Int := if isGroup d l = true then (l.map (stepOf d), 0) else ([], 2)
theorem spec_PathOfWord_f (k : Nat) (d : Int) (l : List Int) (hk : 40 ≤ k) : spec_PathOfWord.f k d l = some (pathRes d l) := by
  unfold spec_PathOfWord.f pathRes
  rw [spec_l09Is_f k d l (by omega), Option.bind_some]
  split
  · next h =>
    obtain ⟨h1, h2, hm⟩ := isGroup_mem' h
    have hl := isGroup_length h
    unfold spec_l09Path.f
    have := spec_l09Path_l0 d h1 h2 l hl hm l.length k 0 [] (by omega) (by omega) rfl
    rw [show ((0 : Nat) : Int) = 0 from rfl] at this
    rw [this]; rfl
  · rfl
theorem impl_PathOfWord_f (k : Nat) (d : Int) (l : List Int) (hk : 40 ≤ k) : impl_PathOfWord.f k d l = some (pathRes d l) := by
  unfold impl_PathOfWord.f pathRes
  rw [impl_IsGroupWord_f, Option.bind_some]
  split
  · next h => rw [impl_pathOfWord_f k d l h (by omega)]; rfl
  · rfl
theorem total_steps (d : Int) (hd : 0 ≤ d) (hd3 : d ≤ 3) (l : List Int) : total (l.map (stepOf d)) ≤ 3 * l.length := by
  induction l with
  | nil => simp [total]
  | cons a l ih => simp only [List.map_cons, total, stepOf_length, List.length_cons]; omega
theorem pathRes_size (d : Int) (l : List Int) : (pathRes d l).1.length ≤ 12 ∧ total (pathRes d l).1 ≤ 36 := by
  unfold pathRes
  split
  · next h =>
    obtain ⟨h1, h2, hm⟩ := isGroup_mem' h
    have hl := isGroup_length h
    have := total_steps d (by omega) h2 l
    simp only [List.length_map]
    exact ⟨hl, by omega⟩
  · simp [total]

end Go.Proofs.Ytmgkalljgglabaa.Pure
