/- Plain lemmas: the rows of a path that are no rests, in both programs. -/
import Derived.Test.YtbpipmkgclkhgaaPx3
import Derived.Test.YtbpipmkgclkhgaaPx4
import Derived.Test.YtbpipmkgclkhgaaBaseTables2
import Derived.Test.YtbpipmkgclkhgaaBaseRows
namespace Go.Proofs.Ytbpipmkgclkhgaa.Pure
open Go.RowKit Go.Proofs.Ytbpipmkgclkhgaa.P Go.Proofs.Ytbpipmkgclkhgaa.Nest Go.Proofs.YtbpipmkgclkhgaaW.PrintWords Go.Proofs.YtbpipmkgclkhgaaW.PrintLast
set_option linter.unusedVariables false
set_option linter.unusedSimpArgs false

/-- A row of a path. -/
def okStep (d : Int) (r : List Int) : Bool := decide ((r.length : Int) = d) && r.all fun n => decide (-100 ≤ n) && decide (n ≤ 100)
def isPth (d : Int) (rows : List (List Int)) : Bool := (decide (1 ≤ d) && decide (d ≤ 3)) && decide ((rows.length : Int) ≤ 12) && rows.all (okStep d)
theorem spec_l04Is_l1 (d : Int) (rows : List (List Int)) (i : Nat) (hi : i < rows.length) (hn : rows.length ≤ 12) (hl : rows[i].length ≤ 3) : ∀ n k j, j + n = rows[i].length →
    spec_l04Is.l1 (k + n + 1) d rows (i : Int) (j : Int) = if (rows[i].drop j).all (fun n => decide (-100 ≤ n) && decide (n ≤ 100)) = true then spec_l04Is.l0 k d rows (wrap64 ((i : Int) + 1)) else some false := by
  intro n
  induction n with
  | zero =>
    intro k j h
    rw [show k + 0 + 1 = k + 1 from rfl, spec_l04Is.l1, if_pos (by omega), if_pos (by omega), rdR_nat rows i hi, if_neg (by omega), List.drop_of_length_le (by omega)]
    simp
  | succ n ih =>
    intro k j h
    rw [show k + (n + 1) + 1 = (k + n + 1) + 1 from by omega, spec_l04Is.l1, if_pos (by omega), if_pos (by omega), rdR_nat rows i hi, if_pos (by omega), if_pos (by omega), rd_nat _ j (by omega), spec_l01In_f, Option.bind_some, wrap_nat _ (by omega), ih k (j + 1) (by omega), List.drop_eq_getElem_cons (show j < rows[i].length by omega), List.all_cons]
    cases hb : (decide (-100 ≤ rows[i][j]) && decide (rows[i][j] ≤ 100)) <;> simp
theorem spec_l04Is_l0 (d : Int) (hd3 : d ≤ 3) (rows : List (List Int)) (hn : rows.length ≤ 12) : ∀ n k i, i + n = rows.length → n * 6 < k → spec_l04Is.l0 k d rows (i : Int) = some ((rows.drop i).all (okStep d)) := by
  intro n
  induction n with
  | zero =>
    intro k i h hk
    obtain ⟨k, rfl⟩ : ∃ m, k = m + 1 := ⟨k - 1, by omega⟩
    rw [spec_l04Is.l0, if_neg (by omega), List.drop_of_length_le (by omega)]
    rfl
  | succ n ih =>
    intro k i h hk
    obtain ⟨k, rfl⟩ : ∃ m, k = m + 1 := ⟨k - 1, by omega⟩
    rw [spec_l04Is.l0, if_pos (by omega), if_pos (by omega), rdR_nat rows i (by omega), List.drop_eq_getElem_cons (show i < rows.length by omega), List.all_cons]
    rw [show okStep d rows[i] = (decide ((rows[i].length : Int) = d) && rows[i].all fun n => decide (-100 ≤ n) && decide (n ≤ 100)) from rfl]
    by_cases hl : (rows[i].length : Int) = d
    · rw [if_pos hl, decide_eq_true hl]
      have hi : i < rows.length := by omega
      obtain ⟨L, hL⟩ : ∃ L, L = (rows[i]'hi).length := ⟨_, rfl⟩
      obtain ⟨k, rfl⟩ : ∃ m, k = m + L + 1 := ⟨k - L - 1, by omega⟩
      have := spec_l04Is_l1 d rows i (by omega) hn (by omega) L k 0 (by omega)
      rw [List.drop_zero] at this
      have this' : spec_l04Is.l1 (k + L + 1) d rows (i : Int) 0 = _ := this
      rw [this', wrap_nat _ (by omega), ih k (i + 1) (by omega) (by omega)]
      cases hb : rows[i].all (fun n => decide (-100 ≤ n) && decide (n ≤ 100)) <;> simp [hb]
    · rw [if_neg hl, decide_eq_false hl]; simp
theorem spec_l04Is_f (k : Nat) (d : Int) (rows : List (List Int)) (hk : 100 ≤ k) (hn : rows.length ≤ 4000000) : spec_l04Is.f k d rows = some (isPth d rows) := by
  unfold spec_l04Is.f isPth
  rw [spec_l01In_f, Option.bind_some]
  obtain ⟨k, rfl⟩ : ∃ m, k = m + 1 := ⟨k - 1, by omega⟩
  by_cases hb : 1 ≤ d ∧ d ≤ 3
  · rw [decide_eq_true hb.1, decide_eq_true hb.2, Bool.and_self, if_pos rfl, spec_l04Is.j0]
    by_cases hl : (rows.length : Int) ≤ 12
    · rw [decide_eq_true hl, decide_eq_false (by omega : ¬ (rows.length : Int) > 12), if_neg (by simp)]
      have := spec_l04Is_l0 d hb.2 rows (by omega) rows.length k 0 (by omega) (by omega)
      rw [List.drop_zero] at this
      simpa using this
    · rw [decide_eq_false hl, decide_eq_true (by omega : (rows.length : Int) > 12), if_pos rfl]
      simp
  · have h : (decide (1 ≤ d) && decide (d ≤ 3)) = false := by
      by_cases h1 : 1 ≤ d
      · simp [h1, show ¬ d ≤ 3 from fun h2 => hb ⟨h1, h2⟩]
      · simp [h1]
    rw [h, if_neg (by simp), spec_l04Is.j0, if_pos rfl]
    simp
theorem impl_IsPath_f (d : Int) (rows : List (List Int)) : impl_IsPath.f d rows = some (isPth d rows) := by
  unfold impl_IsPath.f isPth
  congr 2
  rw [Bool.eq_iff_iff]
  simp only [Bool.not_eq_true', List.any_eq_false, List.all_eq_true, okStep, Bool.or_eq_true, Bool.and_eq_true, decide_eq_true_eq, not_or, Hand.upToB, Bool.not_not, Decidable.not_not]
  refine ⟨fun h r hr => ?_, fun h r hr => ?_⟩
  · obtain ⟨h1, h2⟩ := h r hr
    refine ⟨by simpa using h1, fun n hn => ?_⟩
    have h3 := h2
    simp only [Bool.not_eq_true, List.any_eq_false, List.any_eq_true, not_exists, not_and] at h3
    have h4 := h3 n hn
    simpa [wrap64] using h4
  · obtain ⟨h1, h2⟩ := h r hr
    refine ⟨by simpa using h1, ?_⟩
    simp only [Bool.not_eq_true, List.any_eq_false, List.any_eq_true, not_exists, not_and]
    intro n hn
    have := h2 n hn
    simpa [wrap64] using this
theorem isPth_bounds {d : Int} {rows : List (List Int)} (h : isPth d rows = true) : 1 ≤ d ∧ d ≤ 3 ∧ rows.length ≤ 12 ∧ ∀ r ∈ rows, (r.length : Int) = d := by
  unfold isPth at h
  simp only [Bool.and_eq_true, decide_eq_true_eq, List.all_eq_true, okStep] at h
  exact ⟨h.1.1.1, h.1.1.2, by omega, fun r hr => (h.2 r hr).1⟩
theorem not_any_not {α : Type} (p : α → Bool) (l : List α) : (!(l.any fun x => !(p x))) = l.all p := by
  induction l with
  | nil => rfl
  | cons a l ih => simp only [List.any_cons, List.all_cons, Bool.not_or, Bool.not_not, ih]
theorem rest_iff (x : List Int) : impl_WithoutRests_rest x = x.all fun n => decide (n = 0) := by
  unfold impl_WithoutRests_rest
  rw [not_any_not]
  congr 1
  funext n
  unfold Hand.upToB
  rw [Bool.eq_iff_iff]
  simp [wrap64]
  omega
theorem spec_rest_l0 (x : List Int) (hx : x.length ≤ 3) : ∀ d k i, i + d = x.length → d < k → spec_l04Rest.l0 k x (i : Int) = some ((x.drop i).all fun n => decide (n = 0)) := by
  intro d
  induction d with
  | zero =>
    intro k i h hk
    obtain ⟨k, rfl⟩ : ∃ m, k = m + 1 := ⟨k - 1, by omega⟩
    rw [spec_l04Rest.l0, if_neg (by omega), List.drop_of_length_le (by omega)]
    rfl
  | succ d ih =>
    intro k i h hk
    obtain ⟨k, rfl⟩ : ∃ m, k = m + 1 := ⟨k - 1, by omega⟩
    have hi : i < x.length := by omega
    rw [spec_l04Rest.l0, if_pos (by omega), if_pos (by omega), rd_nat x i hi, List.drop_eq_getElem_cons hi, List.all_cons]
    by_cases h0 : x[i] = 0
    · rw [if_pos h0, wrap_nat _ (by omega), ih k (i + 1) (by omega) (by omega), decide_eq_true h0, Bool.true_and]
    · rw [if_neg h0, decide_eq_false h0, Bool.false_and]
theorem spec_rest_f (k : Nat) (x : List Int) (hx : x.length ≤ 3) (hk : 10 ≤ k) : spec_l04Rest.f k x = some (impl_WithoutRests_rest x) := by
  unfold spec_l04Rest.f
  have := spec_rest_l0 x hx x.length k 0 (by omega) (by omega)
  rw [List.drop_zero] at this
  rw [rest_iff]
  exact this
theorem spec_wr_l0 (l : List (List Int)) (hl : l.length ≤ 12) (hr : ∀ r ∈ l, r.length ≤ 3) : ∀ d k i (x6 : List (List Int)), i + d = l.length → d + 20 ≤ k → x6.length ≤ i → spec_WithoutRests.l0 k l x6 (i : Int) = some (x6 ++ (l.drop i).filter (fun x => !(impl_WithoutRests_rest x)), 0) := by
  intro d
  induction d with
  | zero =>
    intro k i x6 h hk hx
    obtain ⟨k, rfl⟩ : ∃ m, k = m + 1 := ⟨k - 1, by omega⟩
    rw [spec_WithoutRests.l0, if_neg (by omega), List.drop_of_length_le (by omega)]
    simp
  | succ d ih =>
    intro k i x6 h hk hx
    obtain ⟨k, rfl⟩ : ∃ m, k = m + 1 := ⟨k - 1, by omega⟩
    have hi : i < l.length := by omega
    have hri := hr _ (List.getElem_mem hi)
    rw [spec_WithoutRests.l0, if_pos (by omega), if_pos (by omega), rdR_nat l i hi, spec_rest_f k _ hri (by omega), Option.bind_some, List.drop_eq_getElem_cons hi, List.filter_cons]
    cases hq : impl_WithoutRests_rest l[i] with
    | true =>
      rw [if_pos rfl, wrap_nat _ (by omega), ih k (i + 1) x6 (by omega) (by omega) (by omega), if_neg (by simp)]
    | false =>
      rw [if_neg (by simp), spec_l01Own.f, Option.bind_some, if_pos (by simp; omega), Option.bind_some, if_pos (by omega), wrap_nat _ (by omega), ih k (i + 1) _ (by omega) (by omega) (by rw [List.length_append, List.length_singleton]; omega), if_pos (by simp), List.nil_append, List.append_assoc]
      rfl
def wrRes (d : Int) (l : List (List Int)) : List (List Int) × Int := if isPth d l = true then (l.filter (fun x => !(impl_WithoutRests_rest x)), 0) else ([], 1)
theorem spec_WithoutRests_f (k : Nat) (d : Int) (l : List (List Int)) (hk : 200 ≤ k) (hn : l.length ≤ 4000000) : spec_WithoutRests.f k d l = some (wrRes d l) := by
  unfold spec_WithoutRests.f wrRes
  rw [spec_l04Is_f k d l (by omega) hn, Option.bind_some]
  by_cases h : isPth d l = true
  · obtain ⟨h1, h3, h12, hr⟩ := isPth_bounds h
    rw [if_pos h, if_pos h]
    have := spec_wr_l0 l h12 (fun r hr' => by have := hr r hr'; omega) l.length k 0 [] (by omega) (by omega) (by simp)
    rw [List.drop_zero, List.nil_append] at this
    exact this
  · rw [if_neg h, if_neg h]
theorem impl_WithoutRests_ff (k : Nat) (d : Int) (l : List (List Int)) : impl_WithoutRests.f k d l = some (wrRes d l) := by
  unfold impl_WithoutRests.f wrRes
  rw [impl_IsPath_f, Option.bind_some]
  by_cases h : isPth d l = true
  · obtain ⟨h1, h3, h12, hr⟩ := isPth_bounds h
    rw [if_pos h, if_pos h, if_pos ⟨fun r hr' => by have := hr r hr'; omega, by omega⟩]
  · rw [if_neg h, if_neg h]
theorem total_le (l : List (List Int)) (m : Nat) (h : ∀ r ∈ l, r.length ≤ m) : total l ≤ l.length * m := by
  induction l with
  | nil => simp [total]
  | cons r l ih =>
    have h1 := h r List.mem_cons_self
    have h2 := ih (fun x hx => h x (List.mem_cons_of_mem _ hx))
    simp only [total, List.length_cons, Nat.succ_mul]
    omega
theorem wrRes_small (d : Int) (l : List (List Int)) : (wrRes d l).1.length ≤ 1000 ∧ total (wrRes d l).1 ≤ 10000 := by
  unfold wrRes
  split
  · rename_i h
    obtain ⟨h1, h3, h12, hr⟩ := isPth_bounds h
    have hl : (l.filter (fun x => !(impl_WithoutRests_rest x))).length ≤ 12 := Nat.le_trans (List.length_filter_le _ _) h12
    have := total_le (l.filter (fun x => !(impl_WithoutRests_rest x))) 3 (fun r hr' => by have := hr r (List.mem_filter.1 hr').1; omega)
    dsimp only
    exact ⟨by omega, by omega⟩
  · simp [total]

end Go.Proofs.Ytbpipmkgclkhgaa.Pure
