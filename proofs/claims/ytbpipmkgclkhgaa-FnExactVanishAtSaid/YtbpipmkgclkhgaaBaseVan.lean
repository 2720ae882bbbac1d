/- Plain lemmas: do the products of all words of a length vanish, in both programs? -/
import Derived.Test.YtbpipmkgclkhgaaPx7
import Derived.Test.YtbpipmkgclkhgaaPx10
import Derived.Test.YtbpipmkgclkhgaaBaseProd
namespace Go.Proofs.Ytbpipmkgclkhgaa.Pure
open Go.RowKit Go.Proofs.Ytbpipmkgclkhgaa.P Go.Proofs.YtbpipmkgclkhgaaW.PrintWords Go.Proofs.YtbpipmkgclkhgaaW.PrintLast
set_option linter.unusedVariables false
set_option linter.unusedSimpArgs false

def zeroL (m : List (List Int)) : Bool := m.all fun r => r.all fun x => decide (x = 0)
theorem zeroL_mat (n : Nat) (g : Nat → Nat → Int) : zeroL (mat n g) = zeroM n g := by
  unfold zeroL mat zeroM
  rw [all_tab]
  congr 1
  funext i
  rw [all_tab]
theorem isNothing_zeroL (n : Nat) (g : Nat → Nat → Int) : impl_isNothing.f (mat n g) = some (zeroL (mat n g)) := by rw [isNothing_mat, zeroL_mat]
def vanR (n : Nat) (F : Nat → Nat → Nat → Int) : List ByteArray → Bool → Bool × Int
  | [], z => (z, 0)
  | w :: ws, z => if (prodR n F w w.size 0 eye).2 = true then vanR n F ws (z && zeroL (prodR n F w w.size 0 eye).1) else (false, 3)
theorem sva_l2 (n : Nat) (hn : n ≤ 6) (l : List (List (List Int))) (ws : List ByteArray) (x10 : Int) (g : Nat → Nat → Int) (i : Nat) (hi : i < n) : ∀ e k j z, j + e = n →
    spec_VanishAt.l2 (k + e + 1) l ws z x10 (mat n g) (i : Int) (j : Int) = spec_VanishAt.l1 k l ws (z && allF (fun q => decide (g i q = 0)) e j) x10 (mat n g) (wrap64 ((i : Int) + 1)) := by
  intro e
  induction e with
  | zero =>
    intro k j z h
    rw [show k + 0 + 1 = k + 1 from rfl, spec_VanishAt.l2, if_neg (by rw [mat_length]; omega), allF, Bool.and_true]
  | succ e ih =>
    intro k j z h
    rw [show k + (e + 1) + 1 = (k + e + 1) + 1 from by omega, spec_VanishAt.l2, if_pos (by rw [mat_length]; omega), wrap_nat _ (by omega)]
    cases z with
    | true =>
      rw [if_pos rfl, if_pos (by omega), if_pos (by rw [mat_length]; omega), if_pos (by omega), rdR_mat n g i hi, if_pos (by rw [tab_length]; omega), rd_tab n (g i) j (by omega), ih k (j + 1) _ (by omega), allF, Bool.true_and]
      congr 2
    | false =>
      rw [if_neg (by simp), ih k (j + 1) _ (by omega), Bool.false_and, Bool.false_and]
theorem sva_l1 (n : Nat) (hn : n ≤ 6) (l : List (List (List Int))) (ws : List ByteArray) (x10 : Int) (g : Nat → Nat → Int) : ∀ e k i z, i + e = n →
    spec_VanishAt.l1 (k + e * (n + 2) + 1) l ws z x10 (mat n g) (i : Int) = spec_VanishAt.l0 k l ws (z && allF (fun p => allF (fun q => decide (g p q = 0)) n 0) e i) (wrap64 (x10 + 1)) := by
  intro e
  induction e with
  | zero =>
    intro k i z h
    rw [show k + 0 * (n + 2) + 1 = k + 1 from by omega, spec_VanishAt.l1, if_neg (by rw [mat_length]; omega), allF, Bool.and_true]
  | succ e ih =>
    intro k i z h
    rw [show k + (e + 1) * (n + 2) + 1 = ((k + e * (n + 2) + 1) + n + 1) + 1 from by rw [Nat.succ_mul]; omega, spec_VanishAt.l1, if_pos (by rw [mat_length]; omega)]
    have := sva_l2 n hn l ws x10 g i (by omega) n (k + e * (n + 2) + 1) 0 z (by omega)
    rw [show spec_VanishAt.l2 ((k + e * (n + 2) + 1) + n + 1) l ws z x10 (mat n g) (i : Int) 0 = _ from this, wrap_nat _ (by omega), ih k (i + 1) _ (by omega), allF, Bool.and_assoc]
theorem sva_l0 {n : Nat} {l : List (List (List Int))} {F : Nat → Nat → Nat → Int} (T : Tabs n l F) (h0 : 0 < l.length) (ws : List ByteArray) (hws : ∀ w ∈ ws, w.size ≤ 5 ∧ okW l.length w) (hl : ws.length ≤ 100000) : ∀ e k m z, m + e = ws.length → 600 + e * 60 ≤ k →
    spec_VanishAt.l0 k l ws z (m : Int) = some (vanR n F (ws.drop m) z) := by
  intro e
  induction e with
  | zero =>
    intro k m z h hk
    obtain ⟨k, rfl⟩ : ∃ q, k = q + 1 := ⟨k - 1, by omega⟩
    rw [spec_VanishAt.l0, if_neg (by omega), List.drop_of_length_le (by omega), vanR]
  | succ e ih =>
    intro k m z h hk
    have hn := T.dim
    have hm : n * (n + 2) ≤ 6 * 8 := Nat.mul_le_mul hn (by omega)
    obtain ⟨k, rfl⟩ : ∃ q, k = (q + n * (n + 2) + 1) + 1 := ⟨k - n * (n + 2) - 2, by omega⟩
    have hml : m < ws.length := by omega
    obtain ⟨w1, w2⟩ := hws ws[m] (List.getElem_mem hml)
    rw [spec_VanishAt.l0, if_pos (by omega), if_pos (by omega), rdOf_nat ws m hml, spec_product_f T h0 ws[m] w2 (by omega) _ (by omega), Option.bind_some, List.drop_eq_getElem_cons hml, vanR]
    rcases prodR_form n F ws[m] ws[m].size 0 eye with ⟨g, hg⟩ | hg
    · rw [hg, if_pos rfl, if_pos rfl]
      have := sva_l1 n hn l ws (m : Int) g n k 0 z (by omega)
      rw [show spec_VanishAt.l1 (k + n * (n + 2) + 1) l ws z (m : Int) (mat n g) 0 = _ from this, wrap_nat _ (by omega), zeroM_allF, ← zeroL_mat]
      exact ih k (m + 1) _ (by omega) (by omega)
    · rw [hg, if_neg (by simp), if_neg (by simp)]
theorem iva_l0 {n : Nat} {l : List (List (List Int))} {F : Nat → Nat → Nat → Int} (T : Tabs n l F) (h0 : 0 < l.length) (ws : List ByteArray) (hws : ∀ w ∈ ws, w.size ≤ 5 ∧ okW l.length w) (hl : ws.length ≤ 100000) : ∀ e k m z, m + e = ws.length → 600 + e ≤ k →
    impl_VanishAt.l0 k l z ws (ws.length : Int) (m : Int) = some (vanR n F (ws.drop m) z) := by
  intro e
  induction e with
  | zero =>
    intro k m z h hk
    obtain ⟨k, rfl⟩ : ∃ q, k = q + 1 := ⟨k - 1, by omega⟩
    rw [impl_VanishAt.l0, if_neg (by omega), List.drop_of_length_le (by omega), vanR]
  | succ e ih =>
    intro k m z h hk
    obtain ⟨k, rfl⟩ : ∃ q, k = q + 1 := ⟨k - 1, by omega⟩
    have hml : m < ws.length := by omega
    obtain ⟨w1, w2⟩ := hws ws[m] (List.getElem_mem hml)
    rw [impl_VanishAt.l0, if_pos (by omega), if_pos (by omega), if_pos (by omega), rdOf_nat ws m hml, impl_product_f T h0 ws[m] w2 (by omega) _ (by omega), Option.bind_some, List.drop_eq_getElem_cons hml, vanR, wrap_nat _ (by omega)]
    rcases prodR_form n F ws[m] ws[m].size 0 eye with ⟨g, hg⟩ | hg
    · rw [hg, if_pos rfl, if_pos rfl]
      cases z with
      | true => rw [if_pos rfl, isNothing_zeroL, Option.bind_some, Bool.true_and]; exact ih k (m + 1) _ (by omega) (by omega)
      | false => rw [if_neg (by simp), Bool.false_and]; exact ih k (m + 1) _ (by omega) (by omega)
    · rw [hg, if_neg (by simp), if_neg (by simp)]
def vanRes (d : Int) (l : List (List (List Int))) (n : Int) : Bool × Int :=
  if areTabs d l = true then (if (decide (0 ≤ n) && decide (n ≤ 4)) = true then vanR (dimOf l).toNat (fun q => ent (l.getD q [])) (wordsN d.toNat (n.toNat + 1)) true else (false, 2)) else (false, 1)
theorem areTabs_d {d : Int} {l : List (List (List Int))} (h : areTabs d l = true) : 1 ≤ d ∧ d ≤ 3 ∧ (l.length : Int) = d := by
  unfold areTabs at h
  simp only [Bool.and_eq_true, decide_eq_true_eq] at h
  exact ⟨h.1.1.1.1, h.1.1.1.2, h.1.1.2⟩
theorem words_ok (d n : Nat) (hd : d ≤ 3) (hn : n ≤ 5) (L : Nat) (hL : L = d) : (∀ w ∈ wordsN d n, w.size ≤ 5 ∧ okW L w) ∧ (wordsN d n).length ≤ 243 := by
  subst hL
  exact ⟨fun w hw => ⟨by rw [wordsN_size _ n w hw]; omega, wordsN_ok _ hd n w hw⟩, wordsN_small _ hd n hn⟩
theorem spec_VanishAt_f (k : Nat) (d : Int) (l : List (List (List Int))) (n : Int) (hk : 40000 ≤ k) (hl : l.length ≤ 4000000) : spec_VanishAt.f k d l n = some (vanRes d l n) := by
  unfold spec_VanishAt.f vanRes
  rw [spec_l08Are_f k d l (by omega) hl, Option.bind_some, spec_l01In_f]
  by_cases h : areTabs d l = true
  · obtain ⟨d1, d3, dl⟩ := areTabs_d h
    rw [if_pos h, if_pos h, Option.bind_some]
    by_cases hn : (decide (0 ≤ n) && decide (n ≤ 4)) = true
    · rw [if_pos hn, if_pos hn]
      simp only [Bool.and_eq_true, decide_eq_true_eq] at hn
      have hd : (d.toNat : Int) = d := by omega
      have hnn : wrap64 (n + 1) = ((n.toNat + 1 : Nat) : Int) := by rw [wrap_of (n + 1) (by omega) (by omega)]; omega
      have W := spec_l01Words_f k d.toNat (n.toNat + 1) (by omega) (by omega) (by omega)
      rw [hd] at W
      obtain ⟨o1, o2⟩ := words_ok d.toNat (n.toNat + 1) (by omega) (by omega) l.length (by omega)
      rw [hnn, W, Option.bind_some]
      exact sva_l0 (areTabs_tabs h) (by omega) (wordsN d.toNat (n.toNat + 1)) o1 (by omega) (wordsN d.toNat (n.toNat + 1)).length k 0 true (by omega) (by omega)
    · rw [if_neg hn, if_neg hn]
  · rw [if_neg h, if_neg h]
theorem impl_VanishAt_f (k : Nat) (d : Int) (l : List (List (List Int))) (n : Int) (hk : 40000 ≤ k) : impl_VanishAt.f k d l n = some (vanRes d l n) := by
  unfold impl_VanishAt.f vanRes
  have hi : impl_within.f n 0 4 = some (decide (0 ≤ n) && decide (n ≤ 4)) := by
    unfold impl_within.f
    by_cases h : 0 ≤ n <;> simp [h]
  rw [impl_AreTables_f d l, Option.bind_some, hi]
  by_cases h : areTabs d l = true
  · obtain ⟨d1, d3, dl⟩ := areTabs_d h
    rw [if_pos h, if_pos h, Option.bind_some]
    by_cases hn : (decide (0 ≤ n) && decide (n ≤ 4)) = true
    · rw [if_pos hn, if_pos hn]
      simp only [Bool.and_eq_true, decide_eq_true_eq] at hn
      have hd : (d.toNat : Int) = d := by omega
      have hnn : wrap64 (n + 1) = ((n.toNat + 1 : Nat) : Int) := by rw [wrap_of (n + 1) (by omega) (by omega)]; omega
      have W := impl_words_f k d.toNat (n.toNat + 1) (by omega) (by omega) (by omega)
      rw [hd] at W
      obtain ⟨o1, o2⟩ := words_ok d.toNat (n.toNat + 1) (by omega) (by omega) l.length (by omega)
      rw [hnn, W, Option.bind_some]
      exact iva_l0 (areTabs_tabs h) (by omega) (wordsN d.toNat (n.toNat + 1)) o1 (by omega) (wordsN d.toNat (n.toNat + 1)).length k 0 true (by omega) (by omega)
    · rw [if_neg hn, if_neg hn]
  · rw [if_neg h, if_neg h]

end Go.Proofs.Ytbpipmkgclkhgaa.Pure
