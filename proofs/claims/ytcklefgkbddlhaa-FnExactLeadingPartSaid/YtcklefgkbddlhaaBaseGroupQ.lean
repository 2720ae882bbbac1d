/- Plain lemmas on group words. -/
import Derived.Test.YtcklefgkbddlhaaPx4
import Derived.Test.YtcklefgkbddlhaaPx9
import Derived.Test.YtcklefgkbddlhaaBaseX
namespace Go.Proofs.Ytcklefgkbddlhaa.Pure
open Go.RowKit Go.Proofs.Ytcklefgkbddlhaa.P Go.Proofs.YtcklefgkbddlhaaW.PrintWords Go.Proofs.YtcklefgkbddlhaaW.PrintLast
set_option linter.unusedVariables false
set_option linter.unusedSimpArgs false

theorem spec_l01In_f (n lo hi : Int) : spec_l01In.f n lo hi = some (decide (lo ≤ n) && decide (n ≤ hi)) := by
  unfold spec_l01In.f
  by_cases h : n ≥ lo
  · rw [if_pos h]; simp [show lo ≤ n from h]
  · rw [if_neg h]; simp [show ¬ lo ≤ n from h]
/-- A group word for d letters. -/
def isGroup (d : Int) (l : List Int) : Bool := (decide (1 ≤ d) && decide (d ≤ 3)) && decide ((l.length : Int) ≤ 12) && !(l.any fun x => decide (x = 0) || !(Hand.upToB x d))
theorem impl_IsGroupWord_f (d : Int) (l : List Int) : impl_IsGroupWord.f d l = some (isGroup d l) := rfl
theorem spec_l09Is_l0 (d : Int) (l : List Int) (hl : l.length ≤ 12) : ∀ n k i, i + n = l.length → n < k → spec_l09Is.l0 k d l (i : Int) = some (!((l.drop i).any fun x => decide (x = 0) || !(Hand.upToB x d))) := by
  intro n
  induction n with
  | zero =>
    intro k i h hk
    obtain ⟨k, rfl⟩ : ∃ m, k = m + 1 := ⟨k - 1, by omega⟩
    simp only [spec_l09Is.l0]
    rw [if_neg (by omega), List.drop_of_length_le (by omega)]
    rfl
  | succ n ih =>
    intro k i h hk
    obtain ⟨k, rfl⟩ : ∃ m, k = m + 1 := ⟨k - 1, by omega⟩
    simp only [spec_l09Is.l0]
    rw [if_pos (by omega), if_pos (by omega), rd_nat l i (by omega), List.drop_eq_getElem_cons (show i < l.length by omega), List.any_cons]
    by_cases h0 : l[i] = 0
    · rw [if_pos h0]; simp [h0]
    · rw [if_neg h0, spec_l01In_f, Option.bind_some]
      by_cases hu : Hand.upToB l[i] d = true
      · have hu' := hu
        unfold Hand.upToB at hu'
        rw [if_pos hu', wrap_nat _ (by omega), ih k (i + 1) (by omega) (by omega)]
        simp [h0, hu]
      · have hu' := hu
        unfold Hand.upToB at hu'
        rw [if_neg hu']
        simp [hu]
theorem spec_l09Is_f (k : Nat) (d : Int) (l : List Int) (hk : 20 ≤ k) : spec_l09Is.f k d l = some (isGroup d l) := by
  obtain ⟨k, rfl⟩ : ∃ m, k = m + 1 := ⟨k - 1, by omega⟩
  unfold spec_l09Is.f isGroup
  rw [spec_l01In_f, Option.bind_some]
  by_cases h : (decide (1 ≤ d) && decide (d ≤ 3)) = true
  · rw [if_pos h, h]
    simp only [spec_l09Is.j0, Bool.true_and]
    by_cases hl : (l.length : Int) > 12
    · rw [if_pos (decide_eq_true hl), show decide ((l.length : Int) ≤ 12) = false from decide_eq_false (by omega)]; rfl
    · rw [if_neg (by simpa using hl), show decide ((l.length : Int) ≤ 12) = true from decide_eq_true (by omega)]
      have := spec_l09Is_l0 d l (by omega) l.length k 0 (by omega) (by omega)
      simpa using this
  · rw [if_neg h]
    simp only [spec_l09Is.j0, if_true]
    rw [Bool.eq_false_iff.mpr h]; rfl
theorem isGroup_length {d : Int} {l : List Int} (h : isGroup d l = true) : l.length ≤ 12 := by
  unfold isGroup at h
  simp only [Bool.and_eq_true, decide_eq_true_eq] at h
  omega

end Go.Proofs.Ytcklefgkbddlhaa.Pure
