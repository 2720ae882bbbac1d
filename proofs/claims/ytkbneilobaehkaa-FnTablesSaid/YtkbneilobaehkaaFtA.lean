/- Plain lemmas: matrices of whole numbers, and when they are tables for the letters. -/
import Derived.Test.YtkbneilobaehkaaPx10
import Derived.Test.YtkbneilobaehkaaPx6
import Derived.Test.YtkbneilobaehkaaPx7
import Derived.Test.YtkbneilobaehkaaPx8
import Derived.Test.YtkbneilobaehkaaPx4
import Derived.Test.YtkbneilobaehkaaBaseCopies0
namespace Go.Proofs.Ytkbneilobaehkaa.Pure
open Go.RowKit Go.Proofs.Ytkbneilobaehkaa.P Go.Proofs.YtkbneilobaehkaaW.PrintWords Go.Proofs.YtkbneilobaehkaaW.PrintLast
set_option linter.unusedVariables false
set_option linter.unusedSimpArgs false

theorem rdR_nat (l : List (List Int)) (i : Nat) (h : i < l.length) : rd_L3 l (i : Int) = l[i] := by simp [rd_L3, List.getD_eq_getElem?_getD, h]
theorem rdT_nat (l : List (List (List Int))) (i : Nat) (h : i < l.length) : rd_L4 l (i : Int) = l[i] := by simp [rd_L4, List.getD_eq_getElem?_getD, h]
theorem spec_l01In_f (n lo hi : Int) : spec_l01In.f n lo hi = some (decide (lo ≤ n) && decide (n ≤ hi)) := by
 unfold spec_l01In.f
 by_cases h : n ≥ lo
 ·rw [if_pos h]; simp [show lo ≤ n from h]
 ·rw [if_neg h]; simp [show ¬ lo ≤ n from h]


/-- A list by its places. -/
def tab {α : Type} (n : Nat) (g : Nat → α) : List α := (List.range n).map g
theorem tab_length {α : Type} (n : Nat) (g : Nat → α) : (tab n g).length = n := by simp [tab]
theorem tab_get {α : Type} (n : Nat) (g : Nat → α) (i : Nat) (h : i < (tab n g).length) : (tab n g)[i] = g i := by simp [tab]
theorem tab_congr {α : Type} {n : Nat} {g g' : Nat → α} (h : ∀ i, i < n → g i = g' i) : tab n g = tab n g' := by
 unfold tab
 exact List.map_congr_left (fun i hi => h i (List.mem_range.1 hi))
theorem tab_set {α : Type} (n : Nat) (g : Nat → α) (i : Nat) (v : α) : (tab n g).set i v = tab n (fun j => if j = i then v else g j) := by
 apply List.ext_getElem
 ·simp [tab]
 ·intro j h1 h2
  simp only [tab, List.getElem_set, List.getElem_map, List.getElem_range]
  by_cases e : i = j
  ·simp [e]
  ·simp [e, Ne.symm e]
theorem tab_succ {α : Type} (n : Nat) (g : Nat → α) : tab (n + 1) g = tab n g ++ [g n] := by simp [tab, List.range_succ]
theorem tab_rep {α : Type} (n : Nat) (v : α) : List.replicate n v = tab n (fun _ => v) := by
 apply List.ext_getElem
 ·simp [tab]
 ·intro j h1 h2; simp [tab]
theorem rd_tab (n : Nat) (g : Nat → Int) (i : Nat) (h : i < n) : rd (tab n g) (i : Int) = g i := by
 rw [rd_nat _ i (by rw [tab_length]; exact h)]; exact tab_get n g i _
theorem rdR_tab (n : Nat) (g : Nat → List Int) (i : Nat) (h : i < n) : rd_L3 (tab n g) (i : Int) = g i := by
 rw [rdR_nat _ i (by rw [tab_length]; exact h)]; exact tab_get n g i _
theorem all_tab {α : Type} (n : Nat) (g : Nat → α) (p : α → Bool) : (tab n g).all p = (List.range n).all (fun i => p (g i)) := by
 unfold tab; rw [List.all_map]; rfl
/-- A square matrix by its entries. -/
def mat (n : Nat) (f : Nat → Nat → Int) : List (List Int) := tab n fun i => tab n (f i)
def ent (m : List (List Int)) (i j : Nat) : Int := (m.getD i []).getD j 0
/-- The sum of the first t products. -/
def ps (a b : Nat → Nat → Int) (i j : Nat) : Nat → Int
 | 0 => 0
 | t + 1 => ps a b i j t + a i t * b t j
def small (n : Nat) (a : Nat → Nat → Int) : Prop := ∀ i j, i < n → j < n → -1000 ≤ a i j ∧ a i j ≤ 1000
theorem mul_small {x y : Int} (hx : -1000 ≤ x ∧ x ≤ 1000) (hy : -1000 ≤ y ∧ y ≤ 1000) : -1000000 ≤ x * y ∧ x * y ≤ 1000000 := by
 have h1 := Int.mul_nonneg (show 0 ≤ 1000 - x by omega) (show 0 ≤ 1000 - y by omega)
 have h2 := Int.mul_nonneg (show 0 ≤ 1000 + x by omega) (show 0 ≤ 1000 + y by omega)
 have h3 := Int.mul_nonneg (show 0 ≤ 1000 - x by omega) (show 0 ≤ 1000 + y by omega)
 have h4 := Int.mul_nonneg (show 0 ≤ 1000 + x by omega) (show 0 ≤ 1000 - y by omega)
 simp only [Int.sub_mul, Int.add_mul, Int.mul_sub, Int.mul_add] at h1 h2 h3 h4
 generalize x * y = z at *
 omega
/-- Entries as they may be on the way. -/
def big (n : Nat) (a : Nat → Nat → Int) : Prop := ∀ i j, i < n → j < n → -1000000000 ≤ a i j ∧ a i j ≤ 1000000000
theorem mul_big {x y : Int} (hx : -1000000000 ≤ x ∧ x ≤ 1000000000) (hy : -1000 ≤ y ∧ y ≤ 1000) : -1000000000000 ≤ x * y ∧ x * y ≤ 1000000000000 := by
 have h1 := Int.mul_nonneg (show 0 ≤ 1000000000 - x by omega) (show 0 ≤ 1000 - y by omega)
 have h2 := Int.mul_nonneg (show 0 ≤ 1000000000 + x by omega) (show 0 ≤ 1000 + y by omega)
 have h3 := Int.mul_nonneg (show 0 ≤ 1000000000 - x by omega) (show 0 ≤ 1000 + y by omega)
 have h4 := Int.mul_nonneg (show 0 ≤ 1000000000 + x by omega) (show 0 ≤ 1000 - y by omega)
 simp only [Int.sub_mul, Int.add_mul, Int.mul_sub, Int.mul_add] at h1 h2 h3 h4
 generalize x * y = z at *
 omega
theorem ps_big {n : Nat} {a b : Nat → Nat → Int} (ha : big n a) (hb : small n b) (i j : Nat) (hi : i < n) (hj : j < n) : ∀ t, t ≤ n → -(1000000000000 * (t : Int)) ≤ ps a b i j t ∧ ps a b i j t ≤ 1000000000000 * (t : Int) := by
 intro t
 induction t with
 | zero => intro _; simp [ps]
 | succ t ih =>
  intro ht
  have := ih (by omega)
  have hm := mul_big (ha i t hi (by omega)) (hb t j (by omega) hj)
  simp only [ps]
  omega
theorem multiplied_l0 (n : Nat) (hn : n ≤ 6) (c : Int) : ∀ d k i (h : Nat → Int), i + d = n → d < k → impl_multiplied.l0 k c (tab n h) (n : Int) (i : Int) = some (tab n fun j => if i ≤ j then wrap64 (h j * c) else h j) := by
 intro d
 induction d with
 | zero =>
  intro k i h hi hk
  obtain ⟨k, rfl⟩ : ∃ m, k = m + 1 := ⟨k - 1, by omega⟩
  rw [impl_multiplied.l0, if_neg (by omega)]
  exact congrArg some (tab_congr fun j hj => by rw [if_neg (by omega)])
 | succ d ih =>
  intro k i h hi hk
  obtain ⟨k, rfl⟩ : ∃ m, k = m + 1 := ⟨k - 1, by omega⟩
  rw [impl_multiplied.l0, if_pos (by omega), if_pos (by omega), if_pos (by rw [tab_length]; omega), rd_tab n h i (by omega), wrap_nat _ (by omega), Int.toNat_natCast, tab_set, ih k (i + 1) _ (by omega) (by omega)]
  refine congrArg some (tab_congr fun j hj => ?_)
  by_cases e : j = i
  ·subst e; rw [if_neg (by omega), if_pos rfl, if_pos (by omega)]
  ·by_cases e2 : i ≤ j
   ·rw [if_pos (by omega), if_neg e, if_pos e2]
   ·rw [if_neg (by omega), if_neg e, if_neg e2]
theorem multiplied_f (k n : Nat) (hn : n ≤ 6) (hk : 7 ≤ k) (c : Int) (h : Nat → Int) : impl_multiplied.f k (tab n h) c = some (tab n fun j => wrap64 (h j * c)) := by
 unfold impl_multiplied.f slices_Clone_int64_int64.f
 rw [if_pos (by rw [tab_length]; omega), Option.bind_some, tab_length, show impl_multiplied.l0 k c (tab n h) (n : Int) 0 = _ from multiplied_l0 n hn c n k 0 h (by omega) (by omega)]
 simp
theorem added_l0 (n : Nat) (hn : n ≤ 6) (s : Nat → Int) : ∀ d k i (h : Nat → Int), i + d = n → d < k → impl_added.l0 k (tab n h) (tab n s) (n : Int) (i : Int) = some (tab n fun j => if i ≤ j then wrap64 (h j + s j) else h j) := by
 intro d
 induction d with
 | zero =>
  intro k i h hi hk
  obtain ⟨k, rfl⟩ : ∃ m, k = m + 1 := ⟨k - 1, by omega⟩
  rw [impl_added.l0, if_neg (by omega)]
  exact congrArg some (tab_congr fun j hj => by rw [if_neg (by omega)])
 | succ d ih =>
  intro k i h hi hk
  obtain ⟨k, rfl⟩ : ∃ m, k = m + 1 := ⟨k - 1, by omega⟩
  rw [impl_added.l0, if_pos (by omega), if_pos (by omega), if_pos (by rw [tab_length]; omega), if_pos (by rw [tab_length]; omega), rd_tab n h i (by omega), rd_tab n s i (by omega), wrap_nat _ (by omega), Int.toNat_natCast, tab_set, ih k (i + 1) _ (by omega) (by omega)]
  refine congrArg some (tab_congr fun j hj => ?_)
  by_cases e : j = i
  ·subst e; rw [if_neg (by omega), if_pos rfl, if_pos (by omega)]
  ·by_cases e2 : i ≤ j
   ·rw [if_pos (by omega), if_neg e, if_pos e2]
   ·rw [if_neg (by omega), if_neg e, if_neg e2]
theorem added_f (k n : Nat) (hn : n ≤ 6) (hk : 7 ≤ k) (h s : Nat → Int) : impl_added.f k (tab n h) (tab n s) = some (tab n fun j => wrap64 (h j + s j)) := by
 unfold impl_added.f slices_Clone_int64_int64.f
 rw [if_pos (by rw [tab_length]; omega), Option.bind_some, tab_length, show impl_added.l0 k (tab n h) (tab n s) (n : Int) 0 = _ from added_l0 n hn s n k 0 h (by omega) (by omega)]
 simp
theorem square_l0 (n : Nat) (hn : n ≤ 6) : ∀ d k i (G : Nat → List Int), i + d = n → d < k → impl_square.l0 k (n : Int) (tab n G) (n : Int) (i : Int) = some (tab n fun q => if i ≤ q then tab n (fun _ => 0) else G q) := by
 intro d
 induction d with
 | zero =>
  intro k i G hi hk
  obtain ⟨k, rfl⟩ : ∃ m, k = m + 1 := ⟨k - 1, by omega⟩
  rw [impl_square.l0, if_neg (by omega)]
  exact congrArg some (tab_congr fun j hj => by rw [if_neg (by omega)])
 | succ d ih =>
  intro k i G hi hk
  obtain ⟨k, rfl⟩ : ∃ m, k = m + 1 := ⟨k - 1, by omega⟩
  rw [impl_square.l0, if_pos (by omega), if_pos (by omega), if_pos (by omega), if_pos (by omega), if_pos (by rw [tab_length]; omega), wrap_nat _ (by omega), Int.toNat_natCast, Int.toNat_natCast, tab_set, ih k (i + 1) _ (by omega) (by omega)]
  refine congrArg some (tab_congr fun j hj => ?_)
  by_cases e : j = i
  ·subst e; simp [tab_rep]
  ·by_cases e2 : i ≤ j
   ·rw [if_pos (by omega), if_pos e2]
   ·rw [if_neg (by omega), if_neg e, if_neg e2]
theorem square_f (k n : Nat) (hn : n ≤ 6) (hk : 7 ≤ k) : impl_square.f k (n : Int) = some (mat n fun _ _ => 0) := by
 unfold impl_square.f
 rw [if_pos (by omega), if_pos (by omega), Option.bind_some, Int.toNat_natCast, List.length_replicate, tab_rep, show impl_square.l0 k (n : Int) (tab n fun _ => []) (n : Int) 0 = _ from square_l0 n hn n k 0 _ (by omega) (by omega)]
 simp [mat]
theorem timesB_l1 (n : Nat) (hn : n ≤ 6) (a b : Nat → Nat → Int) (ha : big n a) (hb : small n b) (i : Nat) (hi : i < n) : ∀ e k t (G : Nat → List Int), t + e = n → 7 ≤ k → G i = tab n (fun j => ps a b i j t) →
 impl_timesMatrix.l1 (k + e + 1) (mat n b) (tab n G) (i : Int) (mat n a) (n : Int) (i : Int) (tab n (a i)) (n : Int) (t : Int) = impl_timesMatrix.l0 k (mat n b) (tab n fun q => if q = i then tab n (fun j => ps a b i j n) else G q) (mat n a) (n : Int) (wrap64 ((i : Int) + 1)) := by
 intro e
 induction e with
 | zero =>
  intro k t G h hk hG
  obtain rfl : t = n := by omega
  rw [show k + 0 + 1 = k + 1 from rfl, impl_timesMatrix.l1, if_neg (by omega)]
  congr 1
  refine tab_congr fun q hq => ?_
  by_cases e : q = i
  ·rw [if_pos e, e, hG]
  ·rw [if_neg e]
 | succ e ih =>
  intro k t G h hk hG
  rw [show k + (e + 1) + 1 = (k + e + 1) + 1 from by omega, impl_timesMatrix.l1, if_pos (by omega), if_pos (by omega), if_pos (by rw [tab_length]; omega), if_pos (by omega), if_pos (by rw [tab_length]; omega), if_pos (by unfold mat; rw [tab_length]; omega), rd_tab n (a i) t (by omega), show rd_L3 (mat n b) (t : Int) = tab n (b t) from rdR_tab n _ t (by omega), multiplied_f _ n hn (by omega), Option.bind_some, rdR_tab n G i hi, hG, added_f _ n hn (by omega), Option.bind_some, wrap_nat _ (by omega), Int.toNat_natCast, tab_set]
  rw [ih k (t + 1) _ (by omega) hk ?_]
  ·congr 1
   refine tab_congr fun q hq => ?_
   by_cases e : q = i
   ·rw [if_pos e, if_pos e]
   ·rw [if_neg e, if_neg e, if_neg e]
  ·rw [if_pos rfl]
   refine tab_congr fun j hj => ?_
   have hp := ps_big ha hb i j hi hj t (by omega)
   have hm := mul_big (ha i t hi (by omega)) (hb t j (by omega) hj)
   rw [Int.mul_comm (b t j), wrap_of (a i t * b t j) (by omega) (by omega), wrap_of _ (by omega) (by omega)]
   rfl
theorem timesB_l0 (n : Nat) (hn : n ≤ 6) (a b : Nat → Nat → Int) (ha : big n a) (hb : small n b) : ∀ d k i, i + d = n → d * 20 + 20 ≤ k →
 impl_timesMatrix.l0 k (mat n b) (tab n fun q => if q < i then tab n (fun j => ps a b q j n) else tab n (fun _ => 0)) (mat n a) (n : Int) (i : Int) = some (mat n fun i j => ps a b i j n) := by
 intro d
 induction d with
 | zero =>
  intro k i h hk
  obtain ⟨k, rfl⟩ : ∃ m, k = m + 1 := ⟨k - 1, by omega⟩
  rw [impl_timesMatrix.l0, if_neg (by omega)]
  exact congrArg some (tab_congr fun q hq => by rw [if_pos (by omega)])
 | succ d ih =>
  intro k i h hk
  obtain ⟨k, rfl⟩ : ∃ m, k = (m + n + 1) + 1 := ⟨k - n - 2, by omega⟩
  rw [impl_timesMatrix.l0, if_pos (by omega), if_pos (by omega), if_pos (by unfold mat; rw [tab_length]; omega), show rd_L3 (mat n a) (i : Int) = tab n (a i) from rdR_tab n _ i (by omega), tab_length]
  have := timesB_l1 n hn a b ha hb i (by omega) n k 0 (fun q => if q < i then tab n (fun j => ps a b q j n) else tab n (fun _ => 0)) (by omega) (by omega) (by rw [if_neg (by omega)]; rfl)
  rw [show impl_timesMatrix.l1 (k + n + 1) (mat n b) (tab n fun q => if q < i then tab n (fun j => ps a b q j n) else tab n (fun _ => 0)) (i : Int) (mat n a) (n : Int) (i : Int) (tab n (a i)) (n : Int) 0 = _ from this, wrap_nat _ (by omega), ← ih k (i + 1) (by omega) (by omega)]
  congr 1
  refine tab_congr fun q hq => ?_
  by_cases e : q = i
  ·rw [if_pos e, if_pos (by omega), e]
  ·by_cases e2 : q < i
   ·rw [if_neg e, if_pos e2, if_pos (by omega)]
   ·rw [if_neg e, if_neg e2, if_neg (by omega)]
theorem timesB_f (k n : Nat) (hn : n ≤ 6) (hk : 200 ≤ k) (a b : Nat → Nat → Int) (ha : big n a) (hb : small n b) : impl_timesMatrix.f k (mat n a) (mat n b) = some (mat n fun i j => ps a b i j n) := by
 unfold impl_timesMatrix.f
 rw [show (mat n a).length = n from tab_length _ _, square_f k n hn (by omega), Option.bind_some]
 have := timesB_l0 n hn a b ha hb n k 0 (by omega) (by omega)
 simpa [mat] using this
/-- Do two matrices give the same product either way? -/
def zeroM (n : Nat) (f : Nat → Nat → Int) : Bool := (List.range n).all fun i => (List.range n).all fun j => decide (f i j = 0)
def allF (p : Nat → Bool) : Nat → Nat → Bool
 | 0, _ => true
 | e + 1, i => p i && allF p e (i + 1)
theorem allF_iff (p : Nat → Bool) : ∀ e i, allF p e i = true ↔ ∀ q, i ≤ q → q < i + e → p q = true := by
 intro e
 induction e with
 | zero => intro i; simp only [allF, true_iff]; intro q h1 h2; omega
 | succ e ih =>
  intro i
  simp only [allF, Bool.and_eq_true, ih]
  refine ⟨fun h q h1 h2 => ?_, fun h => ⟨h i (Nat.le_refl _) (by omega), fun q h1 h2 => h q (by omega) (by omega)⟩⟩
  by_cases e1 : q = i
  ·rw [e1]; exact h.1
  ·exact h.2 q (by omega) (by omega)
theorem allF_range (p : Nat → Bool) (n : Nat) : allF p n 0 = (List.range n).all p := by
 rw [Bool.eq_iff_iff, allF_iff]
 simp only [List.all_eq_true, List.mem_range]
 exact ⟨fun h q hq => h q (Nat.zero_le _) (by omega), fun h q _ hq => h q (by omega)⟩
/-- Is a number small enough to go on with? -/
def okV (x : Int) : Bool := decide (-1000000000 ≤ x) && decide (x ≤ 1000000000)
def okM (n : Nat) (f : Nat → Nat → Int) : Bool := allF (fun p => allF (fun q => okV (f p q)) n 0) n 0
theorem mat_length (n : Nat) (f : Nat → Nat → Int) : (mat n f).length = n := tab_length _ _
theorem rdR_mat (n : Nat) (f : Nat → Nat → Int) (i : Nat) (h : i < n) : rd_L3 (mat n f) (i : Int) = tab n (f i) := rdR_tab n _ i h
theorem stimesB_l2 (n : Nat) (hn : n ≤ 6) (a b : Nat → Nat → Int) (ha : big n a) (hb : small n b) (x6 : List (List Int)) (i j : Nat) (hi : i < n) (hj : j < n) : ∀ e k t (h : Nat → Int), t + e = n → h j = ps a b i j t →
 spec_l08Times.l2 (k + e + 1) (mat n a) (mat n b) x6 (i : Int) (tab n h) (j : Int) (t : Int) = if okV (ps a b i j n) = true then spec_l08Times.l1 k (mat n a) (mat n b) x6 (i : Int) (tab n fun q => if q = j then ps a b i j n else h q) (wrap64 ((j : Int) + 1)) else some (([] : List (List Int)), false) := by
 intro e
 induction e with
 | zero =>
  intro k t h ht hh
  obtain rfl : t = n := by omega
  have hp := ps_big ha hb i j hi hj t (Nat.le_refl _)
  rw [show k + 0 + 1 = k + 1 from rfl, spec_l08Times.l2, if_neg (by rw [mat_length]; omega), if_pos (by omega), if_pos (by rw [tab_length]; omega), rd_tab t h j hj, hh, spec_l01In_f, Option.bind_some, show (decide (-1000000000 ≤ ps a b i j t) && decide (ps a b i j t ≤ 1000000000)) = okV (ps a b i j t) from rfl]
  congr 2
  refine tab_congr fun q hq => ?_
  by_cases e : q = j
  ·rw [if_pos e, e, hh]
  ·rw [if_neg e]
 | succ e ih =>
  intro k t h ht hh
  rw [show k + (e + 1) + 1 = (k + e + 1) + 1 from by omega, spec_l08Times.l2, if_pos (by rw [mat_length]; omega), if_pos (by omega), if_pos (by rw [tab_length]; omega), if_pos (by omega), if_pos (by rw [mat_length]; omega), if_pos (by omega), rdR_mat n a i hi, if_pos (by rw [tab_length]; omega), rdR_mat n b t (by omega), if_pos (by rw [tab_length]; omega), rd_tab n h j hj, rd_tab n (a i) t (by omega), rd_tab n (b t) j hj, hh, wrap_nat _ (by omega), Int.toNat_natCast, tab_set]
  have hp := ps_big ha hb i j hi hj t (by omega)
  have hm := mul_big (ha i t hi (by omega)) (hb t j (by omega) hj)
  rw [wrap_of (a i t * b t j) (by omega) (by omega), wrap_of _ (by omega) (by omega), ih k (t + 1) _ (by omega) (by rw [if_pos rfl]; rfl)]
  congr 2
  refine tab_congr fun q hq => ?_
  by_cases e : q = j
  ·rw [if_pos e, if_pos e]
  ·rw [if_neg e, if_neg e, if_neg e]
theorem stimesB_l1 (n : Nat) (hn : n ≤ 6) (a b : Nat → Nat → Int) (ha : big n a) (hb : small n b) (x6 : List (List Int)) (h6 : x6.length ≤ 6) (i : Nat) (hi : i < n) : ∀ e k j, j + e = n →
 spec_l08Times.l1 (k + e * (n + 2) + 1) (mat n a) (mat n b) x6 (i : Int) (tab n fun q => if q < j then ps a b i q n else 0) (j : Int) = if allF (fun q => okV (ps a b i q n)) e j = true then spec_l08Times.l0 k (mat n a) (mat n b) (x6 ++ [tab n fun q => ps a b i q n]) (wrap64 ((i : Int) + 1)) else some (([] : List (List Int)), false) := by
 intro e
 induction e with
 | zero =>
  intro k j h
  rw [show k + 0 * (n + 2) + 1 = k + 1 from by omega, spec_l08Times.l1, if_neg (by rw [mat_length]; omega), if_pos (by omega), allF, if_pos rfl]
  congr 3
  refine tab_congr fun q hq => ?_
  rw [if_pos (by omega)]
 | succ e ih =>
  intro k j h
  rw [show k + (e + 1) * (n + 2) + 1 = ((k + e * (n + 2) + 1) + n + 1) + 1 from by rw [Nat.succ_mul]; omega, spec_l08Times.l1, if_pos (by rw [mat_length]; omega)]
  have := stimesB_l2 n hn a b ha hb x6 i j hi (by omega) n (k + e * (n + 2) + 1) 0 (fun q => if q < j then ps a b i q n else 0) (by omega) (by rw [if_neg (by omega)]; rfl)
  rw [show spec_l08Times.l2 ((k + e * (n + 2) + 1) + n + 1) (mat n a) (mat n b) x6 (i : Int) (tab n fun q => if q < j then ps a b i q n else 0) (j : Int) 0 = _ from this, wrap_nat _ (by omega), allF]
  by_cases hv : okV (ps a b i j n) = true
  case neg => rw [if_neg hv, if_neg (by simp [hv])]
  rw [if_pos hv, hv, Bool.true_and, ← ih k (j + 1) (by omega)]
  congr 1
  refine tab_congr fun q hq => ?_
  by_cases e1 : q = j
  ·rw [if_pos e1, if_pos (by omega), e1]
  ·by_cases e2 : q < j
   ·rw [if_neg e1, if_pos e2, if_pos (by omega)]
   ·rw [if_neg e1, if_neg e2, if_neg (by omega)]
theorem stimesB_l0 (n : Nat) (hn : n ≤ 6) (a b : Nat → Nat → Int) (ha : big n a) (hb : small n b) : ∀ d k i, i + d = n → d * 60 + 1 ≤ k →
 spec_l08Times.l0 k (mat n a) (mat n b) (tab i fun i => tab n fun q => ps a b i q n) (i : Int) = some (if allF (fun p => allF (fun q => okV (ps a b p q n)) n 0) d i = true then (mat n fun i j => ps a b i j n, true) else (([] : List (List Int)), false)) := by
 intro d
 induction d with
 | zero =>
  intro k i h hk
  obtain ⟨k, rfl⟩ : ∃ m, k = m + 1 := ⟨k - 1, by omega⟩
  obtain rfl : i = n := by omega
  rw [spec_l08Times.l0, if_neg (by rw [mat_length]; omega), allF, if_pos rfl]
  rfl
 | succ d ih =>
  intro k i h hk
  have hm : n * (n + 2) ≤ 6 * 8 := Nat.mul_le_mul hn (by omega)
  obtain ⟨k, rfl⟩ : ∃ m, k = (m + n * (n + 2) + 1) + 1 := ⟨k - n * (n + 2) - 2, by omega⟩
  rw [spec_l08Times.l0, if_pos (by rw [mat_length]; omega), if_pos (by omega), if_pos (by rw [mat_length]; omega), mat_length, Int.toNat_natCast, tab_rep]
  have := stimesB_l1 n hn a b ha hb (tab i fun i => tab n fun q => ps a b i q n) (by rw [tab_length]; omega) i (by omega) n k 0 (by omega)
  have e0 : (tab n fun q => if q < 0 then ps a b i q n else 0) = tab n fun _ => (0 : Int) := tab_congr fun q hq => by rw [if_neg (by omega)]
  rw [e0] at this
  rw [show spec_l08Times.l1 (k + n * (n + 2) + 1) (mat n a) (mat n b) (tab i fun i => tab n fun q => ps a b i q n) (i : Int) (tab n fun _ => 0) 0 = _ from this, wrap_nat _ (by omega), ← tab_succ, allF]
  by_cases hv : allF (fun q => okV (ps a b i q n)) n 0 = true
  ·rw [if_pos hv, ih k (i + 1) (by omega) (by omega), hv, Bool.true_and]
  ·rw [if_neg hv, if_neg (by simp [hv])]
theorem stimesB_f (k n : Nat) (hn : n ≤ 6) (hk : 400 ≤ k) (a b : Nat → Nat → Int) (ha : big n a) (hb : small n b) : spec_l08Times.f k (mat n a) (mat n b) = some (if okM n (fun i j => ps a b i j n) = true then (mat n fun i j => ps a b i j n, true) else (([] : List (List Int)), false)) :=
 stimesB_l0 n hn a b ha hb n k 0 (by omega) (by omega)
theorem zeroM_allF (n : Nat) (f : Nat → Nat → Int) : allF (fun i => allF (fun j => decide (f i j = 0)) n 0) n 0 = zeroM n f := by
 unfold zeroM
 rw [allF_range]
 congr 1
 funext i
 rw [allF_range]
/-- Tables of n rows each. -/
structure Tabs (n : Nat) (l : List (List (List Int))) (F : Nat → Nat → Nat → Int) : Prop where
 len : l.length ≤ 3
 dim : n ≤ 6
 at_ : ∀ q (h : q < l.length), l[q] = mat n (F q) ∧ small n (F q)
def okEntry (n : Int) : Bool := decide (-1000 ≤ n) && decide (n ≤ 1000)
/-- A square matrix with n rows. -/
def isSq (n : Nat) (m : List (List Int)) : Bool := decide (m.length = n) && m.all fun r => decide (r.length = n) && r.all okEntry
def areTabs (d : Int) (l : List (List (List Int))) : Bool := (decide (1 ≤ d) && decide (d ≤ 3)) && decide ((l.length : Int) = d) && (decide (1 ≤ dimOf l) && decide (dimOf l ≤ 6)) && l.all (isSq (dimOf l).toNat)
theorem spec_l08Are_l2 (l : List (List (List Int))) (n a i : Nat) (ha : a < l.length) (hl3 : l.length ≤ 3) (hn : n ≤ 6) (hm : l[a].length = n) (hi : i < l[a].length) (hr : l[a][i].length = n) : ∀ e k j, j + e = n →
 spec_l08Are.l2 (k + e + 1) l (n : Int) (a : Int) (i : Int) (j : Int) = if (l[a][i].drop j).all okEntry = true then spec_l08Are.l1 k l (n : Int) (a : Int) (wrap64 ((i : Int) + 1)) else some false := by
 intro e
 induction e with
 | zero =>
  intro k j h
  rw [show k + 0 + 1 = k + 1 from rfl, spec_l08Are.l2, if_neg (by omega), List.drop_of_length_le (by omega)]
  simp
 | succ e ih =>
  intro k j h
  rw [show k + (e + 1) + 1 = (k + e + 1) + 1 from by omega, spec_l08Are.l2, if_pos (by omega), if_pos (by omega), if_pos (by omega), if_pos (by omega), rdT_nat l a ha, if_pos (by omega), if_pos (by omega), rdR_nat _ i hi, if_pos (by omega), rd_nat _ j (by omega), spec_l01In_f, Option.bind_some, wrap_nat _ (by omega), ih k (j + 1) (by omega), List.drop_eq_getElem_cons (show j < l[a][i].length by omega), List.all_cons]
  unfold okEntry
  cases hb : (decide (-1000 ≤ l[a][i][j]) && decide (l[a][i][j] ≤ 1000)) <;> simp
theorem spec_l08Are_l1 (l : List (List (List Int))) (n a : Nat) (ha : a < l.length) (hl3 : l.length ≤ 3) (hn : n ≤ 6) (hm : l[a].length = n) (T : Bool) (m : Nat) (hT : ∀ k, m ≤ k → spec_l08Are.l0 k l (n : Int) (wrap64 ((a : Int) + 1)) = some T) : ∀ e k i, i + e = n → m + e * (n + 2) + 1 ≤ k →
 spec_l08Are.l1 k l (n : Int) (a : Int) (i : Int) = some (((l[a].drop i).all fun r => decide (r.length = n) && r.all okEntry) && T) := by
 intro e
 induction e with
 | zero =>
  intro k i h hk
  obtain ⟨k, rfl⟩ : ∃ m, k = m + 1 := ⟨k - 1, by omega⟩
  rw [spec_l08Are.l1, if_neg (by omega), hT k (by omega), List.drop_of_length_le (by omega)]
  simp
 | succ e ih =>
  intro k i h hk
  rw [Nat.succ_mul] at hk
  have hi : i < l[a].length := by omega
  obtain ⟨k, rfl⟩ : ∃ q, k = (q + n + 1) + 1 := ⟨k - n - 2, by omega⟩
  rw [spec_l08Are.l1, if_pos (by omega), if_pos (by omega), if_pos (by omega), if_pos (by omega), rdT_nat l a ha, if_pos (by omega), rdR_nat _ i hi, List.drop_eq_getElem_cons hi, List.all_cons]
  by_cases hr : l[a][i].length = n
  ·have := spec_l08Are_l2 l n a i ha hl3 hn hm hi hr n k 0 (by omega)
   rw [List.drop_zero] at this
   rw [if_pos (by omega), decide_eq_true hr, show spec_l08Are.l2 (k + n + 1) l (n : Int) (a : Int) (i : Int) 0 = _ from this, wrap_nat _ (by omega), ih k (i + 1) (by omega) (by omega)]
   cases hb : l[a][i].all okEntry <;> simp
  ·rw [if_neg (by omega), decide_eq_false hr]; simp
theorem spec_l08Are_l0 (l : List (List (List Int))) (n : Nat) (hl3 : l.length ≤ 3) (hn : n ≤ 6) : ∀ e k a, a + e = l.length → e * 60 + 1 ≤ k → spec_l08Are.l0 k l (n : Int) (a : Int) = some ((l.drop a).all (isSq n)) := by
 intro e
 induction e with
 | zero =>
  intro k a h hk
  obtain ⟨k, rfl⟩ : ∃ m, k = m + 1 := ⟨k - 1, by omega⟩
  rw [spec_l08Are.l0, if_neg (by omega), List.drop_of_length_le (by omega)]
  rfl
 | succ e ih =>
  intro k a h hk
  obtain ⟨k, rfl⟩ : ∃ m, k = m + 1 := ⟨k - 1, by omega⟩
  have ha : a < l.length := by omega
  rw [spec_l08Are.l0, if_pos (by omega), if_pos (by omega), rdT_nat l a ha, List.drop_eq_getElem_cons ha, List.all_cons]
  rw [show isSq n l[a] = (decide (l[a].length = n) && l[a].all fun r => decide (r.length = n) && r.all okEntry) from rfl]
  by_cases hm : l[a].length = n
  ·have hb : n * (n + 2) ≤ 6 * 8 := Nat.mul_le_mul hn (by omega)
   have := spec_l08Are_l1 l n a ha hl3 hn hm ((l.drop (a + 1)).all (isSq n)) (e * 60 + 1) (fun k hk => by rw [wrap_nat _ (by omega)]; exact ih k (a + 1) (by omega) hk) n k 0 (by omega) (by omega)
   rw [List.drop_zero] at this
   rw [if_pos (by omega), decide_eq_true hm, show spec_l08Are.l1 k l (n : Int) (a : Int) 0 = _ from this]
   simp
  ·rw [if_neg (by omega), decide_eq_false hm]; simp
theorem spec_l08Are_f (k : Nat) (d : Int) (l : List (List (List Int))) (hk : 300 ≤ k) (hl : l.length ≤ 4000000) : spec_l08Are.f k d l = some (areTabs d l) := by
 unfold spec_l08Are.f areTabs
 rw [spec_l01In_f, Option.bind_some]
 obtain ⟨k, rfl⟩ : ∃ m, k = m + 2 := ⟨k - 2, by omega⟩
 by_cases hb : 1 ≤ d ∧ d ≤ 3
 ·rw [decide_eq_true hb.1, decide_eq_true hb.2, Bool.and_self, if_pos rfl]
  by_cases hd : (l.length : Int) = d
  ·rw [decide_eq_true hd, hd, bne_self_eq_false, spec_l08Are.j0, if_neg (by simp), if_pos (by omega)]
   have h0 : ((rd_L4 l 0).length : Int) = dimOf l := by
    have := rdT_nat l 0 (by omega)
    rw [show rd_L4 l 0 = l[0] from this]
    unfold dimOf
    simp [List.getD_eq_getElem?_getD, show 0 < l.length by omega]
   rw [h0]
   by_cases h1 : 1 ≤ dimOf l
   ·rw [if_neg (by omega), decide_eq_true h1]
    by_cases h6 : dimOf l ≤ 6
    ·obtain ⟨n, hn⟩ : ∃ n : Nat, dimOf l = n := ⟨(dimOf l).toNat, by omega⟩
     have := spec_l08Are_l0 l n (by omega) (by omega) l.length k 0 (by omega) (by omega)
     rw [List.drop_zero] at this
     rw [decide_eq_true h6, decide_eq_false (by omega : ¬ dimOf l > 6), spec_l08Are.j1, if_neg (by simp), hn, show spec_l08Are.l0 k l (n : Int) 0 = _ from this]
     simp
    ·rw [decide_eq_false h6, decide_eq_true (by omega : dimOf l > 6), spec_l08Are.j1, if_pos rfl]; simp
   ·rw [if_pos (by omega), decide_eq_false h1, spec_l08Are.j1, if_pos rfl]; simp
  ·rw [decide_eq_false hd, show ((l.length : Int) != d) = true from by simpa using hd, spec_l08Are.j0, if_pos rfl]; simp
 ·have h : (decide (1 ≤ d) && decide (d ≤ 3)) = false := by
   by_cases h1 : 1 ≤ d
   ·simp [h1, show ¬ d ≤ 3 from fun h2 => hb ⟨h1, h2⟩]
   ·simp [h1]
  rw [h, if_neg (by simp), spec_l08Are.j0, if_pos rfl]
  simp
theorem not_any_not {α : Type} (p : α → Bool) (l : List α) : (!(l.any fun x => !(p x))) = l.all p := by
 induction l with
 | nil => rfl
 | cons a l ih => simp only [List.any_cons, List.all_cons, Bool.not_or, Bool.not_not, ih]
theorem upToB_1000 (x : Int) : Hand.upToB x 1000 = okEntry x := by unfold Hand.upToB okEntry; rw [wrap_of (-1000) (by omega) (by omega)]
theorem isMat_isSq (n : Nat) (m : List (List Int)) : isMat (n : Int) m = isSq n m := by
 unfold isMat isSq
 have e1 : ∀ r : List Int, (decide ((r.length : Int) ≠ (n : Int)) || !(!(r.any fun q => !(Hand.upToB q 1000)))) = !(decide (r.length = n) && r.all okEntry) := by
  intro r
  rw [not_any_not, show (fun x => Hand.upToB x 1000) = okEntry from funext upToB_1000]
  have hc : ((r.length : Int) = (n : Int)) = (r.length = n) := propext (by omega)
  simp only [ne_eq, hc]
  by_cases h : r.length = n <;> simp [h]
 rw [show (fun r : List Int => decide ((r.length : Int) ≠ (n : Int)) || !(!(r.any fun q => !(Hand.upToB q 1000)))) = fun r => !(decide (r.length = n) && r.all okEntry) from funext e1, not_any_not]
 congr 1
 have hc : ((m.length : Int) = (n : Int)) = (m.length = n) := propext (by omega)
 simp only [hc]
theorem impl_AreTables_f (d : Int) (l : List (List (List Int))) : impl_AreTables.f d l = some (areTabs d l) := by
 unfold impl_AreTables.f areTabs
 have h : dimOf l = ((dimOf l).toNat : Int) := by unfold dimOf; omega
 rw [not_any_not, show isMat (dimOf l) = isSq (dimOf l).toNat from funext fun m => by rw [h]; exact isMat_isSq _ m]

theorem sq_mat {n : Nat} {m : List (List Int)} (h : isSq n m = true) : m = mat n (ent m) ∧ ∀ i j, i < n → j < n → -1000 ≤ ent m i j ∧ ent m i j ≤ 1000 := by
 unfold isSq at h
 simp only [Bool.and_eq_true, decide_eq_true_eq, List.all_eq_true, okEntry] at h
 obtain ⟨hl, hr⟩ := h
 have hm : ∀ i (hi : i < m.length), m[i] = tab n (ent m i) := by
  intro i hi
  obtain ⟨h1, h2⟩ := hr m[i] (List.getElem_mem hi)
  apply List.ext_getElem
  ·rw [tab_length]; exact h1
  ·intro j h3 h4
   rw [tab_get]
   simp [ent, List.getD_eq_getElem?_getD, hi, h3]
 refine ⟨?_, fun i j hi hj => ?_⟩
 ·apply List.ext_getElem
  ·unfold mat; rw [tab_length]; exact hl
  ·intro i h1 h2
   rw [show (mat n (ent m))[i] = tab n (ent m i) from tab_get n _ i h2]; exact hm i h1
 ·obtain ⟨h1, h2⟩ := hr (m[i]'(by omega)) (List.getElem_mem (by omega))
  have hj' : j < (m[i]'(by omega)).length := by omega
  have := h2 ((m[i]'(by omega))[j]) (List.getElem_mem hj')
  have e : ent m i j = (m[i]'(by omega))[j] := by simp [ent, List.getD_eq_getElem?_getD, show i < m.length by omega, hj']
  rw [e]; exact this
theorem areTabs_tabs {d : Int} {l : List (List (List Int))} (h : areTabs d l = true) : Tabs (dimOf l).toNat l (fun q => ent (l.getD q [])) := by
 unfold areTabs at h
 simp only [Bool.and_eq_true, decide_eq_true_eq, List.all_eq_true] at h
 refine ⟨by omega, by omega, fun q hq => ?_⟩
 have := sq_mat (h.2 l[q] (List.getElem_mem hq))
 rw [show l.getD q [] = l[q] from by simp [List.getD_eq_getElem?_getD, hq]]
 exact this
theorem areTabs_d {d : Int} {l : List (List (List Int))} (h : areTabs d l = true) : 1 ≤ d ∧ d ≤ 3 ∧ (l.length : Int) = d := by
 unfold areTabs at h
 simp only [Bool.and_eq_true, decide_eq_true_eq] at h
 exact ⟨h.1.1.1.1, h.1.1.1.2, h.1.1.2⟩

end Go.Proofs.Ytkbneilobaehkaa.Pure
