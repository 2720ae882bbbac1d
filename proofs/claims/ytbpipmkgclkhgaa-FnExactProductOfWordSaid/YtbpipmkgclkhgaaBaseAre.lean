/- Plain lemmas: when are matrices tables for the letters? -/
import Derived.Test.YtbpipmkgclkhgaaPx4
import Derived.Test.YtbpipmkgclkhgaaPx8
import Derived.Test.YtbpipmkgclkhgaaBaseTables
namespace Go.Proofs.Ytbpipmkgclkhgaa.Pure
open Go.RowKit Go.Proofs.Ytbpipmkgclkhgaa.P Go.Proofs.YtbpipmkgclkhgaaW.PrintWords Go.Proofs.YtbpipmkgclkhgaaW.PrintLast
set_option linter.unusedVariables false
set_option linter.unusedSimpArgs false

def okEntry (n : Int) : Bool := decide (-1000 ≤ n) && decide (n ≤ 1000)
/-- A square matrix with n rows. -/
def isSq (n : Nat) (m : List (List Int)) : Bool := decide (m.length = n) && m.all fun r => decide (r.length = n) && r.all okEntry
def areTabs (d : Int) (l : List (List (List Int))) : Bool := (decide (1 ≤ d) && decide (d ≤ 3)) && decide ((l.length : Int) = d) && (decide (1 ≤ dimOf l) && decide (dimOf l ≤ 6)) && l.all (isSq (dimOf l).toNat)
theorem spec_l08Are_l2 (l : List (List (List Int))) (n a i : Nat) (ha : a < l.length) (hl3 : l.length ≤ 3) (hn : n ≤ 6) (hm : l[a].length = n) (hi : i < l[a].length) (hr : l[a][i].length = n) : ∀ e k j, j + e = n →
    spec_l08Are.l2 (k + e + 1) l (n : Int) (a : Int) (i : Int) (j : Int) = if (l[a][i].drop j).all okEntry = true then spec_l08Are.l1 k l (n : Int) (a : Int) (wrap64 ((i : Int) + 1)) else some false := by
  intro e
  induction e with
  | zero =>
    intro k j h
    rw [show k + 0 + 1 = k + 1 from rfl, spec_l08Are.l2, if_neg (by omega), List.drop_of_length_le (by omega)]
    simp
  | succ e ih =>
    intro k j h
    rw [show k + (e + 1) + 1 = (k + e + 1) + 1 from by omega, spec_l08Are.l2, if_pos (by omega), if_pos (by omega), if_pos (by omega), if_pos (by omega), rdT_nat l a ha, if_pos (by omega), if_pos (by omega), rdR_nat _ i hi, if_pos (by omega), rd_nat _ j (by omega), spec_l01In_f, Option.bind_some, wrap_nat _ (by omega), ih k (j + 1) (by omega), List.drop_eq_getElem_cons (show j < l[a][i].length by omega), List.all_cons]
    unfold okEntry
    cases hb : (decide (-1000 ≤ l[a][i][j]) && decide (l[a][i][j] ≤ 1000)) <;> simp
theorem spec_l08Are_l1 (l : List (List (List Int))) (n a : Nat) (ha : a < l.length) (hl3 : l.length ≤ 3) (hn : n ≤ 6) (hm : l[a].length = n) (T : Bool) (m : Nat) (hT : ∀ k, m ≤ k → spec_l08Are.l0 k l (n : Int) (wrap64 ((a : Int) + 1)) = some T) : ∀ e k i, i + e = n → m + e * (n + 2) + 1 ≤ k →
    spec_l08Are.l1 k l (n : Int) (a : Int) (i : Int) = some (((l[a].drop i).all fun r => decide (r.length = n) && r.all okEntry) && T) := by
  intro e
  induction e with
  | zero =>
    intro k i h hk
    obtain ⟨k, rfl⟩ : ∃ m, k = m + 1 := ⟨k - 1, by omega⟩
    rw [spec_l08Are.l1, if_neg (by omega), hT k (by omega), List.drop_of_length_le (by omega)]
    simp
  | succ e ih =>
    intro k i h hk
    rw [Nat.succ_mul] at hk
    have hi : i < l[a].length := by omega
    obtain ⟨k, rfl⟩ : ∃ q, k = (q + n + 1) + 1 := ⟨k - n - 2, by omega⟩
    rw [spec_l08Are.l1, if_pos (by omega), if_pos (by omega), if_pos (by omega), if_pos (by omega), rdT_nat l a ha, if_pos (by omega), rdR_nat _ i hi, List.drop_eq_getElem_cons hi, List.all_cons]
    by_cases hr : l[a][i].length = n
    · have := spec_l08Are_l2 l n a i ha hl3 hn hm hi hr n k 0 (by omega)
      rw [List.drop_zero] at this
      rw [if_pos (by omega), decide_eq_true hr, show spec_l08Are.l2 (k + n + 1) l (n : Int) (a : Int) (i : Int) 0 = _ from this, wrap_nat _ (by omega), ih k (i + 1) (by omega) (by omega)]
      cases hb : l[a][i].all okEntry <;> simp
    · rw [if_neg (by omega), decide_eq_false hr]; simp
theorem spec_l08Are_l0 (l : List (List (List Int))) (n : Nat) (hl3 : l.length ≤ 3) (hn : n ≤ 6) : ∀ e k a, a + e = l.length → e * 60 + 1 ≤ k → spec_l08Are.l0 k l (n : Int) (a : Int) = some ((l.drop a).all (isSq n)) := by
  intro e
  induction e with
  | zero =>
    intro k a h hk
    obtain ⟨k, rfl⟩ : ∃ m, k = m + 1 := ⟨k - 1, by omega⟩
    rw [spec_l08Are.l0, if_neg (by omega), List.drop_of_length_le (by omega)]
    rfl
  | succ e ih =>
    intro k a h hk
    obtain ⟨k, rfl⟩ : ∃ m, k = m + 1 := ⟨k - 1, by omega⟩
    have ha : a < l.length := by omega
    rw [spec_l08Are.l0, if_pos (by omega), if_pos (by omega), rdT_nat l a ha, List.drop_eq_getElem_cons ha, List.all_cons]
    rw [show isSq n l[a] = (decide (l[a].length = n) && l[a].all fun r => decide (r.length = n) && r.all okEntry) from rfl]
    by_cases hm : l[a].length = n
    · have hb : n * (n + 2) ≤ 6 * 8 := Nat.mul_le_mul hn (by omega)
      have := spec_l08Are_l1 l n a ha hl3 hn hm ((l.drop (a + 1)).all (isSq n)) (e * 60 + 1) (fun k hk => by rw [wrap_nat _ (by omega)]; exact ih k (a + 1) (by omega) hk) n k 0 (by omega) (by omega)
      rw [List.drop_zero] at this
      rw [if_pos (by omega), decide_eq_true hm, show spec_l08Are.l1 k l (n : Int) (a : Int) 0 = _ from this]
      simp
    · rw [if_neg (by omega), decide_eq_false hm]; simp
theorem spec_l08Are_f (k : Nat) (d : Int) (l : List (List (List Int))) (hk : 300 ≤ k) (hl : l.length ≤ 4000000) : spec_l08Are.f k d l = some (areTabs d l) := by
  unfold spec_l08Are.f areTabs
  rw [spec_l01In_f, Option.bind_some]
  obtain ⟨k, rfl⟩ : ∃ m, k = m + 2 := ⟨k - 2, by omega⟩
  by_cases hb : 1 ≤ d ∧ d ≤ 3
  · rw [decide_eq_true hb.1, decide_eq_true hb.2, Bool.and_self, if_pos rfl]
    by_cases hd : (l.length : Int) = d
    · rw [decide_eq_true hd, hd, bne_self_eq_false, spec_l08Are.j0, if_neg (by simp), if_pos (by omega)]
      have h0 : ((rd_L2 l 0).length : Int) = dimOf l := by
        have := rdT_nat l 0 (by omega)
        rw [show rd_L2 l 0 = l[0] from this]
        unfold dimOf
        simp [List.getD_eq_getElem?_getD, show 0 < l.length by omega]
      rw [h0]
      by_cases h1 : 1 ≤ dimOf l
      · rw [if_neg (by omega), decide_eq_true h1]
        by_cases h6 : dimOf l ≤ 6
        · obtain ⟨n, hn⟩ : ∃ n : Nat, dimOf l = n := ⟨(dimOf l).toNat, by omega⟩
          have := spec_l08Are_l0 l n (by omega) (by omega) l.length k 0 (by omega) (by omega)
          rw [List.drop_zero] at this
          rw [decide_eq_true h6, decide_eq_false (by omega : ¬ dimOf l > 6), spec_l08Are.j1, if_neg (by simp), hn, show spec_l08Are.l0 k l (n : Int) 0 = _ from this]
          simp
        · rw [decide_eq_false h6, decide_eq_true (by omega : dimOf l > 6), spec_l08Are.j1, if_pos rfl]; simp
      · rw [if_pos (by omega), decide_eq_false h1, spec_l08Are.j1, if_pos rfl]; simp
    · rw [decide_eq_false hd, show ((l.length : Int) != d) = true from by simpa using hd, spec_l08Are.j0, if_pos rfl]; simp
  · have h : (decide (1 ≤ d) && decide (d ≤ 3)) = false := by
      by_cases h1 : 1 ≤ d
      · simp [h1, show ¬ d ≤ 3 from fun h2 => hb ⟨h1, h2⟩]
      · simp [h1]
    rw [h, if_neg (by simp), spec_l08Are.j0, if_pos rfl]
    simp
theorem not_any_not {α : Type} (p : α → Bool) (l : List α) : (!(l.any fun x => !(p x))) = l.all p := by
  induction l with
  | nil => rfl
  | cons a l ih => simp only [List.any_cons, List.all_cons, Bool.not_or, Bool.not_not, ih]
theorem upToB_1000 (x : Int) : Hand.upToB x 1000 = okEntry x := by unfold Hand.upToB okEntry; rw [wrap_of (-1000) (by omega) (by omega)]
theorem isMat_isSq (n : Nat) (m : List (List Int)) : isMat (n : Int) m = isSq n m := by
  unfold isMat isSq
  have e1 : ∀ r : List Int, (decide ((r.length : Int) ≠ (n : Int)) || !(!(r.any fun q => !(Hand.upToB q 1000)))) = !(decide (r.length = n) && r.all okEntry) := by
    intro r
    rw [not_any_not, show (fun x => Hand.upToB x 1000) = okEntry from funext upToB_1000]
    have hc : ((r.length : Int) = (n : Int)) = (r.length = n) := propext (by omega)
    simp only [ne_eq, hc]
    by_cases h : r.length = n <;> simp [h]
  rw [show (fun r : List Int => decide ((r.length : Int) ≠ (n : Int)) || !(!(r.any fun q => !(Hand.upToB q 1000)))) = fun r => !(decide (r.length = n) && r.all okEntry) from funext e1, not_any_not]
  congr 1
  have hc : ((m.length : Int) = (n : Int)) = (m.length = n) := propext (by omega)
  simp only [hc]
theorem impl_AreTables_f (d : Int) (l : List (List (List Int))) : impl_AreTables.f d l = some (areTabs d l) := by
  unfold impl_AreTables.f areTabs
  have h : dimOf l = ((dimOf l).toNat : Int) := by unfold dimOf; omega
  rw [not_any_not, show isMat (dimOf l) = isSq (dimOf l).toNat from funext fun m => by rw [h]; exact isMat_isSq _ m]

end Go.Proofs.Ytbpipmkgclkhgaa.Pure
