/- Plain lemmas on the paths of group words. -/
import Derived.Test.YtcklefgkbddlhaaPx12
import Derived.Test.YtcklefgkbddlhaaBaseGroupQ
namespace Go.Proofs.Ytcklefgkbddlhaa.Pure
open Go.RowKit Go.Proofs.Ytcklefgkbddlhaa.P Go.Proofs.YtcklefgkbddlhaaW.PrintWords Go.Proofs.YtcklefgkbddlhaaW.PrintLast
set_option linter.unusedVariables false
set_option linter.unusedSimpArgs false

theorem isGroup_mem' {d : Int} {l : List Int} (h : isGroup d l = true) : 1 ≤ d ∧ d ≤ 3 ∧ ∀ x ∈ l, x ≠ 0 ∧ -d ≤ x ∧ x ≤ d := by
  unfold isGroup at h
  simp only [Bool.and_eq_true, decide_eq_true_eq, Bool.not_eq_true', List.any_eq_false, Bool.or_eq_true, not_or] at h
  obtain ⟨⟨⟨h1, h2⟩, _⟩, h3⟩ := h
  refine ⟨h1, h2, fun x hx => ?_⟩
  obtain ⟨h4, h5⟩ := h3 x hx
  have h6 : Hand.upToB x d = true := by
    cases e : Hand.upToB x d
    · rw [e] at h5; simp at h5
    · rfl
  unfold Hand.upToB at h6
  rw [show wrap64 (-d) = -d from by unfold wrap64; omega] at h6
  simp only [Bool.and_eq_true, decide_eq_true_eq] at h6
  exact ⟨h4, h6.1, h6.2⟩
/-- The step of a number of a group word for d letters. -/
def stepOf (d n : Int) : List Int := (List.replicate d.toNat 0).set ((mx n (-n)) - 1).toNat (if n > 0 then 1 else -1)
theorem stepOf_length (d n : Int) : (stepOf d n).length = d.toNat := by simp [stepOf]
theorem impl_pathOfWord_l0 (d : Int) (hd : 1 ≤ d) (hd3 : d ≤ 3) (l : List Int) (hl : l.length ≤ 12) (hm : ∀ x ∈ l, x ≠ 0 ∧ -d ≤ x ∧ x ≤ d) : ∀ n k i (x : List (List Int)), i + n = l.length → n < k → x.length = i → impl_pathOfWord.l0 k d x l (l.length : Int) (i : Int) = some (x ++ (l.drop i).map (stepOf d)) := by
  intro n
  induction n with
  | zero =>
    intro k i x h hk hx
    obtain ⟨k, rfl⟩ : ∃ m, k = m + 1 := ⟨k - 1, by omega⟩
    simp only [impl_pathOfWord.l0]
    rw [if_neg (by omega), List.drop_of_length_le (by omega)]
    simp
  | succ n ih =>
    intro k i x h hk hx
    obtain ⟨k, rfl⟩ : ∃ m, k = m + 1 := ⟨k - 1, by omega⟩
    have hb := hm l[i] (List.getElem_mem (by omega))
    simp only [impl_pathOfWord.l0, impl_size.f, Option.bind_some]
    rw [if_pos (by omega), if_pos (by omega), if_pos (by omega), if_pos (by omega), if_pos (by omega), rd_nat l i (by omega), wrap_nat _ (by omega), List.drop_eq_getElem_cons (show i < l.length by omega), List.map_cons]
    have e1 : wrap64 (-l[i]) = -l[i] := wrap_of _ (by omega) (by omega)
    rw [e1]
    have e2 : 1 ≤ mx l[i] (-l[i]) ∧ mx l[i] (-l[i]) ≤ d := by unfold mx; omega
    rw [wrap_of (mx l[i] (-l[i]) - 1) (by omega) (by omega), if_neg (by omega), if_pos (by omega), if_pos (by simp; omega), if_pos (by omega)]
    have e3 : wrap64 (Int.tdiv l[i] (mx l[i] (-l[i]))) = if l[i] > 0 then 1 else -1 := by
      by_cases h0 : l[i] > 0
      · rw [if_pos h0, show mx l[i] (-l[i]) = l[i] from by unfold mx; omega, Int.tdiv_self (by omega)]; exact wrap_of 1 (by omega) (by omega)
      · rw [if_neg h0, show mx l[i] (-l[i]) = -l[i] from by unfold mx; omega, Int.tdiv_neg, Int.tdiv_self (by omega)]; exact wrap_of (-1) (by omega) (by omega)
    rw [e3, ih k (i + 1) _ (by omega) (by omega) (by simp [hx])]
    simp [stepOf]
theorem impl_pathOfWord_f (k : Nat) (d : Int) (l : List Int) (h : isGroup d l = true) (hk : 20 ≤ k) : impl_pathOfWord.f k d l = some (l.map (stepOf d)) := by
  obtain ⟨h1, h2, hm⟩ := isGroup_mem' h
  have hl := isGroup_length h
  unfold impl_pathOfWord.f
  have := impl_pathOfWord_l0 d h1 h2 l hl hm l.length k 0 [] (by omega) (by omega) rfl
  simpa using this
end Go.Proofs.Ytcklefgkbddlhaa.Pure
