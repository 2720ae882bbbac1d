/- Plain lemmas: commutators of matrices, in both programs. -/
import Derived.Test.YtkbneilobaehkaaPx15
import Derived.Test.YtkbneilobaehkaaPx13
import Derived.Test.YtkbneilobaehkaaPx16
import Derived.Test.YtkbneilobaehkaaPx14
import Derived.Test.YtkbneilobaehkaaPx18
import Derived.Test.YtkbneilobaehkaaFtW
namespace Go.Proofs.Ytkbneilobaehkaa.Pure
open Go.RowKit Go.Proofs.Ytkbneilobaehkaa.P Go.Proofs.YtkbneilobaehkaaW.PrintWords Go.Proofs.YtkbneilobaehkaaW.PrintLast
set_option linter.unusedVariables false
set_option linter.unusedSimpArgs false

theorem small_big {n : Nat} {a : Nat → Nat → Int} (h : small n a) : big n a := fun i j hi hj => by have := h i j hi hj; omega
theorem ps_small {n : Nat} {a b : Nat → Nat → Int} (ha : small n a) (hb : small n b) (i j : Nat) (hi : i < n) (hj : j < n) : ∀ t, t ≤ n → -(1000000 * (t : Int)) ≤ ps a b i j t ∧ ps a b i j t ≤ 1000000 * (t : Int) := by
 intro t
 induction t with
 | zero => intro _; simp [ps]
 | succ t ih =>
  intro ht
  have := ih (by omega)
  have hm := mul_small (ha i t hi (by omega)) (hb t j (by omega) hj)
  simp only [ps]
  omega
/-- Small enough for a difference. -/
def mid (n : Nat) (p : Nat → Nat → Int) : Prop := ∀ i j, i < n → j < n → -6000000 ≤ p i j ∧ p i j ≤ 6000000
theorem ps_mid {n : Nat} (hn : n ≤ 6) {a b : Nat → Nat → Int} (ha : small n a) (hb : small n b) : mid n fun i j => ps a b i j n := by
 intro i j hi hj
 have := ps_small ha hb i j hi hj n (Nat.le_refl _)
 show -6000000 ≤ ps a b i j n ∧ ps a b i j n ≤ 6000000
 omega
theorem times_f (k n : Nat) (hn : n ≤ 6) (hk : 200 ≤ k) (a b : Nat → Nat → Int) (ha : small n a) (hb : small n b) : impl_timesMatrix.f k (mat n a) (mat n b) = some (mat n fun i j => ps a b i j n) :=
 timesB_f k n hn hk a b (small_big ha) hb
theorem less_l0 (n : Nat) (hn : n ≤ 6) (p q : Nat → Nat → Int) (hp : mid n p) (hq : mid n q) : ∀ d k i, i + d = n → d + 10 ≤ k →
 impl_lessMatrix.l0 k (mat n q) (tab i fun i => tab n fun j => p i j - q i j) (mat n p) (n : Int) (i : Int) = some (mat n fun i j => p i j - q i j) := by
 intro d
 induction d with
 | zero =>
  intro k i h hk
  obtain ⟨k, rfl⟩ : ∃ m, k = m + 1 := ⟨k - 1, by omega⟩
  obtain rfl : i = n := by omega
  rw [impl_lessMatrix.l0, if_neg (by omega)]
  rfl
 | succ d ih =>
  intro k i h hk
  obtain ⟨k, rfl⟩ : ∃ m, k = m + 1 := ⟨k - 1, by omega⟩
  have hl : ∀ f, (mat n f).length = n := fun f => tab_length _ _
  rw [impl_lessMatrix.l0, if_pos (by omega), if_pos (by omega), if_pos (by rw [hl]; omega), if_pos (by rw [hl]; omega), show rd_L3 (mat n q) (i : Int) = tab n (q i) from rdR_tab n _ i (by omega), multiplied_f _ n hn (by omega), Option.bind_some, show rd_L3 (mat n p) (i : Int) = tab n (p i) from rdR_tab n _ i (by omega), added_f _ n hn (by omega), Option.bind_some, if_pos (by rw [tab_length]; omega), wrap_nat _ (by omega), ← ih k (i + 1) (by omega) (by omega), tab_succ]
  congr 3
  refine tab_congr fun j hj => ?_
  have h1 := hp i j (by omega) hj
  have h2 := hq i j (by omega) hj
  rw [show q i j * -1 = -(q i j) from by omega, wrap_of (-(q i j)) (by omega) (by omega), wrap_of _ (by omega) (by omega)]
  omega
theorem turn_f (k n : Nat) (hn : n ≤ 6) (hk : 200 ≤ k) (a b : Nat → Nat → Int) (ha : small n a) (hb : small n b) : impl_turn.f k (mat n a) (mat n b) = some (mat n fun i j => ps a b i j n - ps b a i j n) := by
 unfold impl_turn.f impl_lessMatrix.f
 rw [times_f k n hn hk a b ha hb, Option.bind_some, times_f k n hn hk b a hb ha, Option.bind_some, show (mat n fun i j => ps a b i j n).length = n from tab_length _ _]
 have := less_l0 n hn _ _ (ps_mid hn ha hb) (ps_mid hn hb ha) n k 0 (by omega) (by omega)
 have this' : impl_lessMatrix.l0 k (mat n fun i j => ps b a i j n) ([] : List (List Int)) (mat n fun i j => ps a b i j n) (n : Int) 0 = _ := this
 rw [this']
 rfl
theorem stimes_f (k n : Nat) (hn : n ≤ 6) (hk : 400 ≤ k) (a b : Nat → Nat → Int) (ha : small n a) (hb : small n b) : spec_l08Times.f k (mat n a) (mat n b) = some (mat n fun i j => ps a b i j n, true) := by
 rw [stimesB_f k n hn hk a b (small_big ha) hb, if_pos]
 unfold okM
 rw [allF_iff]
 intro p _ hp
 rw [allF_iff]
 intro q _ hq
 have : -6000000 ≤ ps a b p q n ∧ ps a b p q n ≤ 6000000 := ps_mid hn ha hb p q (by omega) (by omega)
 unfold okV
 simp only [Bool.and_eq_true, decide_eq_true_eq]
 omega
theorem comm_l1 (n : Nat) (hn : n ≤ 6) (x0 : List (List Int)) (h0 : x0.length = n) (p q : Nat → Nat → Int) (hp : mid n p) (hq : mid n q) (x9 : List (List Int)) (h9 : x9.length ≤ 6) (i : Nat) (hi : i < n) : ∀ e k j, j + e = n →
 spec_l08Commutator.l1 (k + e + 1) x0 (mat n p) (mat n q) x9 (i : Int) (tab j fun j => p i j - q i j) (j : Int) = spec_l08Commutator.l0 k x0 (mat n p) (mat n q) (x9 ++ [tab n fun j => p i j - q i j]) (wrap64 ((i : Int) + 1)) := by
 intro e
 induction e with
 | zero =>
  intro k j h
  obtain rfl : j = n := by omega
  rw [show k + 0 + 1 = k + 1 from rfl, spec_l08Commutator.l1, if_neg (by omega), if_pos (by omega)]
 | succ e ih =>
  intro k j h
  have h1 := hp i j hi (by omega)
  have h2 := hq i j hi (by omega)
  rw [show k + (e + 1) + 1 = (k + e + 1) + 1 from by omega, spec_l08Commutator.l1, if_pos (by omega), if_pos (by omega), if_pos (by rw [mat_length]; omega), if_pos (by omega), rdR_mat n p i hi, rdR_mat n q i hi, if_pos (by rw [tab_length]; omega), if_pos (by rw [mat_length]; omega), if_pos (by rw [tab_length]; omega), if_pos (by rw [tab_length]; omega), rd_tab n (p i) j (by omega), rd_tab n (q i) j (by omega), wrap_of (p i j - q i j) (by omega) (by omega), wrap_nat _ (by omega), show (tab j fun j => p i j - q i j) ++ [p i j - q i j] = tab (j + 1) fun j => p i j - q i j from (tab_succ j fun j => p i j - q i j).symm, ih k (j + 1) (by omega)]
theorem comm_l0 (n : Nat) (hn : n ≤ 6) (x0 : List (List Int)) (h0 : x0.length = n) (p q : Nat → Nat → Int) (hp : mid n p) (hq : mid n q) : ∀ d k i, i + d = n → d * 10 + 1 ≤ k →
 spec_l08Commutator.l0 k x0 (mat n p) (mat n q) (tab i fun i => tab n fun j => p i j - q i j) (i : Int) = some (mat n fun i j => p i j - q i j) := by
 intro d
 induction d with
 | zero =>
  intro k i h hk
  obtain ⟨k, rfl⟩ : ∃ m, k = m + 1 := ⟨k - 1, by omega⟩
  obtain rfl : i = n := by omega
  rw [spec_l08Commutator.l0, if_neg (by omega)]
  rfl
 | succ d ih =>
  intro k i h hk
  obtain ⟨k, rfl⟩ : ∃ m, k = (m + n + 1) + 1 := ⟨k - n - 2, by omega⟩
  rw [spec_l08Commutator.l0, if_pos (by omega)]
  have := comm_l1 n hn x0 h0 p q hp hq (tab i fun i => tab n fun j => p i j - q i j) (by rw [tab_length]; omega) i (by omega) n k 0 (by omega)
  rw [show spec_l08Commutator.l1 (k + n + 1) x0 (mat n p) (mat n q) (tab i fun i => tab n fun j => p i j - q i j) (i : Int) ([] : List Int) 0 = _ from this, wrap_nat _ (by omega), ← tab_succ, ih k (i + 1) (by omega) (by omega)]
def cm (n : Nat) (a b : Nat → Nat → Int) : Nat → Nat → Int := fun i j => ps a b i j n - ps b a i j n
theorem comm_f (k n : Nat) (hn : n ≤ 6) (hk : 400 ≤ k) (a b : Nat → Nat → Int) (ha : small n a) (hb : small n b) : spec_l08Commutator.f k (mat n a) (mat n b) = some (mat n (cm n a b)) := by
 unfold spec_l08Commutator.f
 rw [stimes_f k n hn hk a b ha hb, Option.bind_some, stimes_f k n hn hk b a hb ha, Option.bind_some]
 exact comm_l0 n hn (mat n a) (mat_length _ _) _ _ (ps_mid hn ha hb) (ps_mid hn hb ha) n k 0 (by omega) (by omega)
def orF (z : Bool) (R : Bool × Int) : Bool × Int := if z = true then R else (false, 0)
theorem sdo_l3 (n : Nat) (hn : n ≤ 6) (l : List (List (List Int))) (x6 x7 : Int) (f : Nat → Nat → Int) (i : Nat) (hi : i < n) (R : Bool × Int) (m : Nat) (hT : ∀ k, m ≤ k → spec_DoTablesCommute.l2 k l x6 x7 (mat n f) (wrap64 ((i : Int) + 1)) = some R) : ∀ e k j, j + e = n → m + e + 1 ≤ k →
 spec_DoTablesCommute.l3 k l x6 x7 (mat n f) (i : Int) (j : Int) = some (orF (allF (fun j => decide (f i j = 0)) e j) R) := by
 intro e
 induction e with
 | zero =>
  intro k j h hk
  obtain ⟨k, rfl⟩ : ∃ m, k = m + 1 := ⟨k - 1, by omega⟩
  rw [spec_DoTablesCommute.l3, if_neg (by rw [mat_length]; omega), hT k (by omega)]
  rfl
 | succ e ih =>
  intro k j h hk
  obtain ⟨k, rfl⟩ : ∃ m, k = m + 1 := ⟨k - 1, by omega⟩
  rw [spec_DoTablesCommute.l3, if_pos (by rw [mat_length]; omega), if_pos (by omega), if_pos (by rw [mat_length]; omega), if_pos (by omega), rdR_mat n f i hi, if_pos (by rw [tab_length]; omega), rd_tab n (f i) j (by omega), wrap_nat _ (by omega), ih k (j + 1) (by omega) (by omega), allF]
  by_cases hz : f i j = 0
  ·rw [if_pos hz, decide_eq_true hz, Bool.true_and]
  ·rw [if_neg hz, decide_eq_false hz, Bool.false_and]; rfl
theorem orF_and (x y : Bool) (R : Bool × Int) : orF x (orF y R) = orF (x && y) R := by cases x <;> cases y <;> rfl
theorem sdo_l2 (n : Nat) (hn : n ≤ 6) (l : List (List (List Int))) (x6 x7 : Int) (f : Nat → Nat → Int) (R : Bool × Int) (m : Nat) (hT : ∀ k, m ≤ k → spec_DoTablesCommute.l1 k l x6 (wrap64 (x7 + 1)) = some R) : ∀ e k i, i + e = n → m + e * (n + 2) + 1 ≤ k →
 spec_DoTablesCommute.l2 k l x6 x7 (mat n f) (i : Int) = some (orF (allF (fun i => allF (fun j => decide (f i j = 0)) n 0) e i) R) := by
 intro e
 induction e with
 | zero =>
  intro k i h hk
  obtain ⟨k, rfl⟩ : ∃ m, k = m + 1 := ⟨k - 1, by omega⟩
  rw [spec_DoTablesCommute.l2, if_neg (by rw [mat_length]; omega), hT k (by omega)]
  rfl
 | succ e ih =>
  intro k i h hk
  rw [Nat.succ_mul] at hk
  obtain ⟨k, rfl⟩ : ∃ m, k = m + 1 := ⟨k - 1, by omega⟩
  rw [spec_DoTablesCommute.l2, if_pos (by rw [mat_length]; omega)]
  have := sdo_l3 n hn l x6 x7 f i (by omega) _ (m + e * (n + 2) + 1) (fun k hk => by rw [wrap_nat _ (by omega)]; exact ih k (i + 1) (by omega) hk) n k 0 (by omega) (by omega)
  rw [show spec_DoTablesCommute.l3 k l x6 x7 (mat n f) (i : Int) 0 = _ from this, orF_and]
  rfl
def Z (n : Nat) (F : Nat → Nat → Nat → Int) (a b : Nat) : Bool := zeroM n (cm n (F a) (F b))
theorem sdo_l1 {n : Nat} {l : List (List (List Int))} {F : Nat → Nat → Nat → Int} (T : Tabs n l F) (a : Nat) (ha : a < l.length) (R : Bool × Int) (m : Nat) (hm : 500 ≤ m) (hT : ∀ k, m ≤ k → spec_DoTablesCommute.l0 k l (wrap64 ((a : Int) + 1)) = some R) : ∀ e k b, b + e = a → m + e * 60 + 1 ≤ k →
 spec_DoTablesCommute.l1 k l (a : Int) (b : Int) = some (orF (allF (Z n F a) e b) R) := by
 have hl := T.len
 have hn := T.dim
 intro e
 induction e with
 | zero =>
  intro k b h hk
  obtain ⟨k, rfl⟩ : ∃ m, k = m + 1 := ⟨k - 1, by omega⟩
  rw [spec_DoTablesCommute.l1, if_neg (by omega), hT k (by omega)]
  rfl
 | succ e ih =>
  intro k b h hk
  obtain ⟨k, rfl⟩ : ∃ m, k = m + 1 := ⟨k - 1, by omega⟩
  have hb : n * (n + 2) ≤ 6 * 8 := Nat.mul_le_mul hn (by omega)
  obtain ⟨ea, sa⟩ := T.at_ a ha
  obtain ⟨eb, sb⟩ := T.at_ b (by omega)
  rw [spec_DoTablesCommute.l1, if_pos (by omega), if_pos (by omega), if_pos (by omega), if_pos (by omega), if_pos (by omega), rdT_nat l a ha, rdT_nat l b (by omega), ea, eb, comm_f k n hn (by omega) _ _ sa sb, Option.bind_some]
  have := sdo_l2 n hn l (a : Int) (b : Int) (cm n (F a) (F b)) _ (m + e * 60 + 1) (fun k hk => by rw [wrap_nat _ (by omega)]; exact ih k (b + 1) (by omega) hk) n k 0 (by omega) (by omega)
  rw [show spec_DoTablesCommute.l2 k l (a : Int) (b : Int) (mat n (cm n (F a) (F b))) 0 = _ from this, orF_and, zeroM_allF]
  rfl
theorem sdo_l0 {n : Nat} {l : List (List (List Int))} {F : Nat → Nat → Nat → Int} (T : Tabs n l F) : ∀ e k a, a + e = l.length → 500 + e * 200 ≤ k →
 spec_DoTablesCommute.l0 k l (a : Int) = some (orF (allF (fun a => allF (Z n F a) a 0) e a) (true, 0)) := by
 have hl := T.len
 intro e
 induction e with
 | zero =>
  intro k a h hk
  obtain ⟨k, rfl⟩ : ∃ m, k = m + 1 := ⟨k - 1, by omega⟩
  rw [spec_DoTablesCommute.l0, if_neg (by omega)]
  rfl
 | succ e ih =>
  intro k a h hk
  obtain ⟨k, rfl⟩ : ∃ m, k = m + 1 := ⟨k - 1, by omega⟩
  rw [spec_DoTablesCommute.l0, if_pos (by omega)]
  have := sdo_l1 T a (by omega) _ (500 + e * 200) (by omega) (fun k hk => by rw [wrap_nat _ (by omega)]; exact ih k (a + 1) (by omega) hk) a k 0 (by omega) (by omega)
  rw [show spec_DoTablesCommute.l1 k l (a : Int) 0 = _ from this, orF_and]
  rfl
theorem ido_l1 {n : Nat} {l : List (List (List Int))} {F : Nat → Nat → Nat → Int} (T : Tabs n l F) (a : Nat) (ha : a < l.length) (R : Bool × Int) (m : Nat) (hm : 500 ≤ m) (hT : ∀ k, m ≤ k → impl_DoTablesCommute.l0 k l l (l.length : Int) (wrap64 ((a : Int) + 1)) = some R) : ∀ e k b, b + e = l.length → m + e + 1 ≤ k →
 impl_DoTablesCommute.l1 k l (mat n (F a)) l (l.length : Int) (a : Int) l (l.length : Int) (b : Int) = some (orF (allF (Z n F a) e b) R) := by
 have hl := T.len
 have hn := T.dim
 intro e
 induction e with
 | zero =>
  intro k b h hk
  obtain ⟨k, rfl⟩ : ∃ m, k = m + 1 := ⟨k - 1, by omega⟩
  rw [impl_DoTablesCommute.l1, if_neg (by omega), hT k (by omega)]
  rfl
 | succ e ih =>
  intro k b h hk
  obtain ⟨k, rfl⟩ : ∃ m, k = m + 1 := ⟨k - 1, by omega⟩
  obtain ⟨ea, sa⟩ := T.at_ a ha
  obtain ⟨eb, sb⟩ := T.at_ b (by omega)
  rw [impl_DoTablesCommute.l1, if_pos (by omega), if_pos (by omega), if_pos (by omega), rdT_nat l b (by omega), eb, turn_f k n hn (by omega) _ _ sa sb, Option.bind_some, isNothing_mat, Option.bind_some, wrap_nat _ (by omega), ih k (b + 1) (by omega) (by omega), allF]
  rw [show (zeroM n fun i j => ps (F a) (F b) i j n - ps (F b) (F a) i j n) = Z n F a b from rfl]
  cases Z n F a b <;> simp [orF]
theorem ido_l0 {n : Nat} {l : List (List (List Int))} {F : Nat → Nat → Nat → Int} (T : Tabs n l F) : ∀ e k a, a + e = l.length → 500 + e * 20 ≤ k →
 impl_DoTablesCommute.l0 k l l (l.length : Int) (a : Int) = some (orF (allF (fun a => allF (Z n F a) l.length 0) e a) (true, 0)) := by
 have hl := T.len
 intro e
 induction e with
 | zero =>
  intro k a h hk
  obtain ⟨k, rfl⟩ : ∃ m, k = m + 1 := ⟨k - 1, by omega⟩
  rw [impl_DoTablesCommute.l0, if_neg (by omega)]
  rfl
 | succ e ih =>
  intro k a h hk
  obtain ⟨k, rfl⟩ : ∃ m, k = m + 1 := ⟨k - 1, by omega⟩
  rw [impl_DoTablesCommute.l0, if_pos (by omega), if_pos (by omega), if_pos (by omega), rdT_nat l a (by omega), (T.at_ a (by omega)).1]
  have := ido_l1 T a (by omega) _ (500 + e * 20) (by omega) (fun k hk => by rw [wrap_nat _ (by omega)]; exact ih k (a + 1) (by omega) hk) l.length k 0 (by omega) (by omega)
  rw [show impl_DoTablesCommute.l1 k l (mat n (F a)) l (l.length : Int) (a : Int) l (l.length : Int) 0 = _ from this, orF_and]
  rfl
theorem Z_symm (n : Nat) (F : Nat → Nat → Nat → Int) (a b : Nat) : Z n F a b = Z n F b a := by
 unfold Z zeroM cm
 congr 1; funext i; congr 1; funext j
 rw [Bool.eq_iff_iff]
 simp only [decide_eq_true_eq]
 omega
theorem Z_refl (n : Nat) (F : Nat → Nat → Nat → Int) (a : Nat) : Z n F a a = true := by
 unfold Z zeroM cm
 simp
theorem Z_all (n m : Nat) (F : Nat → Nat → Nat → Int) : allF (fun a => allF (Z n F a) a 0) m 0 = allF (fun a => allF (Z n F a) m 0) m 0 := by
 rw [Bool.eq_iff_iff]
 simp only [allF_iff]
 refine ⟨fun h a _ ha b _ hb => ?_, fun h a _ ha b _ hb => h a (Nat.zero_le _) ha b (Nat.zero_le _) (by omega)⟩
 rcases Nat.lt_trichotomy a b with e | e | e
 ·rw [Z_symm]; exact h b (Nat.zero_le _) hb a (Nat.zero_le _) (by omega)
 ·rw [e]; exact Z_refl n F b
 ·exact h a (Nat.zero_le _) ha b (Nat.zero_le _) (by omega)
def commRes (d : Int) (l : List (List (List Int))) : Bool × Int := if areTabs d l = true then orF (allF (fun a => allF (Z (dimOf l).toNat (fun q => ent (l.getD q [])) a) l.length 0) l.length 0) (true, 0) else (false, 1)
theorem spec_DoTablesCommute_f (k : Nat) (d : Int) (l : List (List (List Int))) (hk : 2000 ≤ k) (hl : l.length ≤ 4000000) : spec_DoTablesCommute.f k d l = some (commRes d l) := by
 unfold spec_DoTablesCommute.f commRes
 rw [spec_l08Are_f k d l (by omega) hl, Option.bind_some]
 by_cases h : areTabs d l = true
 ·have T := areTabs_tabs h
  have := sdo_l0 T l.length k 0 (by omega) (by have := T.len; omega)
  rw [if_pos h, if_pos h, show spec_DoTablesCommute.l0 k l 0 = _ from this, Z_all]
 ·rw [if_neg h, if_neg h]
theorem impl_DoTablesCommute_f (k : Nat) (d : Int) (l : List (List (List Int))) (hk : 2000 ≤ k) : impl_DoTablesCommute.f k d l = some (commRes d l) := by
 unfold impl_DoTablesCommute.f commRes
 rw [impl_AreTables_f d l, Option.bind_some]
 by_cases h : areTabs d l = true
 ·have T := areTabs_tabs h
  have := ido_l0 T l.length k 0 (by omega) (by have := T.len; omega)
  rw [if_pos h, if_pos h, show impl_DoTablesCommute.l0 k l l (l.length : Int) 0 = _ from this]
 ·rw [if_neg h, if_neg h]
def tcRes (d : Int) (l : List (List (List Int))) (i k : Int) : List (List Int) × Int :=
 if areTabs d l = true then (if ((decide (0 ≤ i) && decide (i ≤ d - 1)) && (decide (0 ≤ k) && decide (k ≤ d - 1))) = true then (mat (dimOf l).toNat (cm (dimOf l).toNat (ent (l.getD i.toNat [])) (ent (l.getD k.toNat []))), 0) else ([], 2)) else ([], 1)
theorem rdT_int (l : List (List (List Int))) (i : Int) (h0 : 0 ≤ i) (h : i < l.length) : rd_L4 l i = l[i.toNat]'(by omega) := by
 have := rdT_nat l i.toNat (by omega)
 rwa [Int.toNat_of_nonneg h0] at this
theorem within_f (n lo hi : Int) : impl_within.f n lo hi = some (decide (lo ≤ n) && decide (n ≤ hi)) := by
 unfold impl_within.f
 by_cases h : lo ≤ n <;> simp [h]
theorem spec_TableCommutator_f (K : Nat) (d : Int) (l : List (List (List Int))) (i k : Int) (hk : 2000 ≤ K) (hl : l.length ≤ 4000000) : spec_TableCommutator.f K d l i k = some (tcRes d l i k) := by
 unfold spec_TableCommutator.f tcRes
 rw [spec_l08Are_f K d l (by omega) hl, Option.bind_some]
 by_cases h : areTabs d l = true
 ·obtain ⟨d1, d3, dl⟩ := areTabs_d h
  have T := areTabs_tabs h
  rw [if_pos h, if_pos h, spec_l01In_f, spec_l01In_f, wrap_of (d - 1) (by omega) (by omega), Option.bind_some]
  by_cases hi : (decide (0 ≤ i) && decide (i ≤ d - 1)) = true
  ·rw [if_pos hi, Option.bind_some]
   by_cases hq : (decide (0 ≤ k) && decide (k ≤ d - 1)) = true
   ·rw [if_pos hq, if_pos (show ((decide (0 ≤ i) && decide (i ≤ d - 1)) && (decide (0 ≤ k) && decide (k ≤ d - 1))) = true by rw [hi, hq]; rfl)]
    simp only [Bool.and_eq_true, decide_eq_true_eq] at hi hq
    obtain ⟨t1, t2⟩ := T.at_ i.toNat (by omega)
    obtain ⟨t3, t4⟩ := T.at_ k.toNat (by omega)
    rw [if_pos (by omega), if_pos (by omega), if_pos (by omega), if_pos (by omega), rdT_int l i (by omega) (by omega), rdT_int l k (by omega) (by omega), t1, t3, comm_f K _ T.dim (by omega) _ _ t2 t4, Option.bind_some]
   ·rw [if_neg hq, if_neg (by simp [hq])]
  ·rw [if_neg hi, if_neg (by simp [hi])]
 ·rw [if_neg h, if_neg h]
theorem impl_TableCommutator_f (K : Nat) (d : Int) (l : List (List (List Int))) (i k : Int) (hk : 2000 ≤ K) : impl_TableCommutator.f K d l i k = some (tcRes d l i k) := by
 unfold impl_TableCommutator.f tcRes
 rw [impl_AreTables_f d l, Option.bind_some]
 by_cases h : areTabs d l = true
 ·obtain ⟨d1, d3, dl⟩ := areTabs_d h
  have T := areTabs_tabs h
  rw [if_pos h, if_pos h, within_f, within_f, wrap_of (d - 1) (by omega) (by omega), Option.bind_some]
  by_cases hi : (decide (0 ≤ i) && decide (i ≤ d - 1)) = true
  ·rw [if_pos hi, Option.bind_some]
   by_cases hq : (decide (0 ≤ k) && decide (k ≤ d - 1)) = true
   ·rw [if_pos hq, if_pos (show ((decide (0 ≤ i) && decide (i ≤ d - 1)) && (decide (0 ≤ k) && decide (k ≤ d - 1))) = true by rw [hi, hq]; rfl)]
    simp only [Bool.and_eq_true, decide_eq_true_eq] at hi hq
    obtain ⟨t1, t2⟩ := T.at_ i.toNat (by omega)
    obtain ⟨t3, t4⟩ := T.at_ k.toNat (by omega)
    rw [if_pos (by omega), if_pos (by omega), if_pos (by omega), if_pos (by omega), rdT_int l i (by omega) (by omega), rdT_int l k (by omega) (by omega), t1, t3, turn_f K _ T.dim (by omega) _ _ t2 t4, Option.bind_some]
    rfl
   ·rw [if_neg hq, if_neg (by simp [hq])]
  ·rw [if_neg hi, if_neg (by simp [hi])]
 ·rw [if_neg h, if_neg h]
theorem dim_le {d : Int} {l : List (List (List Int))} (h : areTabs d l = true) : (dimOf l).toNat ≤ 6 := (areTabs_tabs h).dim

end Go.Proofs.Ytkbneilobaehkaa.Pure
