/- Plain lemmas on paths: what the reference and the program ask of them. -/
import Derived.Test.YtfbkjlgibpmpoaaPx1
import Derived.Test.YtfbkjlgibpmpoaaPx5
import Derived.Test.YtfbkjlgibpmpoaaBaseTables2
namespace Go.Proofs.Ytfbkjlgibpmpoaa.Pure
open Go.RowKit Go.Proofs.Ytfbkjlgibpmpoaa.P Go.Proofs.YtfbkjlgibpmpoaaW.PrintWords Go.Proofs.YtfbkjlgibpmpoaaW.PrintLast
set_option linter.unusedVariables false
set_option linter.unusedSimpArgs false

/-- A row of a path. -/
def okStep (d : Int) (r : List Int) : Bool := decide ((r.length : Int) = d) && r.all fun n => decide (-100 ≤ n) && decide (n ≤ 100)
def isPth (d : Int) (rows : List (List Int)) : Bool := (decide (1 ≤ d) && decide (d ≤ 3)) && decide ((rows.length : Int) ≤ 12) && rows.all (okStep d)
theorem spec_l04Is_l1 (d : Int) (rows : List (List Int)) (i : Nat) (hi : i < rows.length) (hn : rows.length ≤ 12) (hl : rows[i].length ≤ 3) : ∀ n k j, j + n = rows[i].length →
    spec_l04Is.l1 (k + n + 1) d rows (i : Int) (j : Int) = if (rows[i].drop j).all (fun n => decide (-100 ≤ n) && decide (n ≤ 100)) = true then spec_l04Is.l0 k d rows (wrap64 ((i : Int) + 1)) else some false := by
  intro n
  induction n with
  | zero =>
    intro k j h
    rw [show k + 0 + 1 = k + 1 from rfl, spec_l04Is.l1, if_pos (by omega), if_pos (by omega), rdR_nat rows i hi, if_neg (by omega), List.drop_of_length_le (by omega)]
    simp
  | succ n ih =>
    intro k j h
    rw [show k + (n + 1) + 1 = (k + n + 1) + 1 from by omega, spec_l04Is.l1, if_pos (by omega), if_pos (by omega), rdR_nat rows i hi, if_pos (by omega), if_pos (by omega), rd_nat _ j (by omega), spec_l01In_f, Option.bind_some, wrap_nat _ (by omega), ih k (j + 1) (by omega), List.drop_eq_getElem_cons (show j < rows[i].length by omega), List.all_cons]
    cases hb : (decide (-100 ≤ rows[i][j]) && decide (rows[i][j] ≤ 100)) <;> simp
theorem spec_l04Is_l0 (d : Int) (hd3 : d ≤ 3) (rows : List (List Int)) (hn : rows.length ≤ 12) : ∀ n k i, i + n = rows.length → n * 6 < k → spec_l04Is.l0 k d rows (i : Int) = some ((rows.drop i).all (okStep d)) := by
  intro n
  induction n with
  | zero =>
    intro k i h hk
    obtain ⟨k, rfl⟩ : ∃ m, k = m + 1 := ⟨k - 1, by omega⟩
    rw [spec_l04Is.l0, if_neg (by omega), List.drop_of_length_le (by omega)]
    rfl
  | succ n ih =>
    intro k i h hk
    obtain ⟨k, rfl⟩ : ∃ m, k = m + 1 := ⟨k - 1, by omega⟩
    rw [spec_l04Is.l0, if_pos (by omega), if_pos (by omega), rdR_nat rows i (by omega), List.drop_eq_getElem_cons (show i < rows.length by omega), List.all_cons]
    rw [show okStep d rows[i] = (decide ((rows[i].length : Int) = d) && rows[i].all fun n => decide (-100 ≤ n) && decide (n ≤ 100)) from rfl]
    by_cases hl : (rows[i].length : Int) = d
    · rw [if_pos hl, decide_eq_true hl]
      have hi : i < rows.length := by omega
      obtain ⟨L, hL⟩ : ∃ L, L = (rows[i]'hi).length := ⟨_, rfl⟩
      obtain ⟨k, rfl⟩ : ∃ m, k = m + L + 1 := ⟨k - L - 1, by omega⟩
      have := spec_l04Is_l1 d rows i (by omega) hn (by omega) L k 0 (by omega)
      rw [List.drop_zero] at this
      have this' : spec_l04Is.l1 (k + L + 1) d rows (i : Int) 0 = _ := this
      rw [this', wrap_nat _ (by omega), ih k (i + 1) (by omega) (by omega)]
      cases hb : rows[i].all (fun n => decide (-100 ≤ n) && decide (n ≤ 100)) <;> simp [hb]
    · rw [if_neg hl, decide_eq_false hl]; simp
theorem spec_l04Is_f (k : Nat) (d : Int) (rows : List (List Int)) (hk : 100 ≤ k) (hn : rows.length ≤ 4000000) : spec_l04Is.f k d rows = some (isPth d rows) := by
  unfold spec_l04Is.f isPth
  rw [spec_l01In_f, Option.bind_some]
  obtain ⟨k, rfl⟩ : ∃ m, k = m + 1 := ⟨k - 1, by omega⟩
  by_cases hb : 1 ≤ d ∧ d ≤ 3
  · rw [decide_eq_true hb.1, decide_eq_true hb.2, Bool.and_self, if_pos rfl, spec_l04Is.j0]
    by_cases hl : (rows.length : Int) ≤ 12
    · rw [decide_eq_true hl, decide_eq_false (by omega : ¬ (rows.length : Int) > 12), if_neg (by simp)]
      have := spec_l04Is_l0 d hb.2 rows (by omega) rows.length k 0 (by omega) (by omega)
      rw [List.drop_zero] at this
      simpa using this
    · rw [decide_eq_false hl, decide_eq_true (by omega : (rows.length : Int) > 12), if_pos rfl]
      simp
  · have h : (decide (1 ≤ d) && decide (d ≤ 3)) = false := by
      by_cases h1 : 1 ≤ d
      · simp [h1, show ¬ d ≤ 3 from fun h2 => hb ⟨h1, h2⟩]
      · simp [h1]
    rw [h, if_neg (by simp), spec_l04Is.j0, if_pos rfl]
    simp
theorem impl_IsPath_f (d : Int) (rows : List (List Int)) : impl_IsPath.f d rows = some (isPth d rows) := by
  unfold impl_IsPath.f isPth
  congr 2
  rw [Bool.eq_iff_iff]
  simp only [Bool.not_eq_true', List.any_eq_false, List.all_eq_true, okStep, Bool.or_eq_true, Bool.and_eq_true, decide_eq_true_eq, not_or, Hand.upToB, Bool.not_not, Decidable.not_not]
  refine ⟨fun h r hr => ?_, fun h r hr => ?_⟩
  · obtain ⟨h1, h2⟩ := h r hr
    refine ⟨by simpa using h1, fun n hn => ?_⟩
    have h3 := h2
    simp only [Bool.not_eq_true, List.any_eq_false, List.any_eq_true, not_exists, not_and] at h3
    have h4 := h3 n hn
    simpa [wrap64] using h4
  · obtain ⟨h1, h2⟩ := h r hr
    refine ⟨by simpa using h1, ?_⟩
    simp only [Bool.not_eq_true, List.any_eq_false, List.any_eq_true, not_exists, not_and]
    intro n hn
    have := h2 n hn
    simpa [wrap64] using this
theorem isPth_bounds {d : Int} {rows : List (List Int)} (h : isPth d rows = true) : 1 ≤ d ∧ d ≤ 3 ∧ rows.length ≤ 12 ∧ ∀ r ∈ rows, (r.length : Int) = d := by
  unfold isPth at h
  simp only [Bool.and_eq_true, decide_eq_true_eq, List.all_eq_true, okStep] at h
  exact ⟨h.1.1.1, h.1.1.2, by omega, fun r hr => (h.2 r hr).1⟩
end Go.Proofs.Ytfbkjlgibpmpoaa.Pure
