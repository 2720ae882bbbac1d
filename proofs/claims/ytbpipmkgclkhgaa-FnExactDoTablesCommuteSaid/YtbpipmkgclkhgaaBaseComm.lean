/- Plain lemmas: when do tables commute, in both programs. -/
import Derived.Test.YtbpipmkgclkhgaaPx8
import Derived.Test.YtbpipmkgclkhgaaPx11
import Derived.Test.YtbpipmkgclkhgaaBaseMul
namespace Go.Proofs.Ytbpipmkgclkhgaa.Pure
open Go.RowKit Go.Proofs.Ytbpipmkgclkhgaa.P Go.Proofs.YtbpipmkgclkhgaaW.PrintWords Go.Proofs.YtbpipmkgclkhgaaW.PrintLast
set_option linter.unusedVariables false
set_option linter.unusedSimpArgs false

theorem mat_length (n : Nat) (f : Nat → Nat → Int) : (mat n f).length = n := tab_length _ _
theorem rdR_mat (n : Nat) (f : Nat → Nat → Int) (i : Nat) (h : i < n) : rd_L1 (mat n f) (i : Int) = tab n (f i) := rdR_tab n _ i h
theorem stimes_l2 (n : Nat) (hn : n ≤ 6) (a b : Nat → Nat → Int) (ha : small n a) (hb : small n b) (x6 : List (List Int)) (i j : Nat) (hi : i < n) (hj : j < n) : ∀ e k t (h : Nat → Int), t + e = n → h j = ps a b i j t →
    spec_l08Times.l2 (k + e + 1) (mat n a) (mat n b) x6 (i : Int) (tab n h) (j : Int) (t : Int) = spec_l08Times.l1 k (mat n a) (mat n b) x6 (i : Int) (tab n fun q => if q = j then ps a b i j n else h q) (wrap64 ((j : Int) + 1)) := by
  intro e
  induction e with
  | zero =>
    intro k t h ht hh
    obtain rfl : t = n := by omega
    have hp := ps_small ha hb i j hi hj t (Nat.le_refl _)
    rw [show k + 0 + 1 = k + 1 from rfl, spec_l08Times.l2, if_neg (by rw [mat_length]; omega), if_pos (by omega), if_pos (by rw [tab_length]; omega), rd_tab t h j hj, hh, spec_l01In_f, Option.bind_some, if_pos (by simp; omega)]
    congr 1
    refine tab_congr fun q hq => ?_
    by_cases e : q = j
    · rw [if_pos e, e, hh]
    · rw [if_neg e]
  | succ e ih =>
    intro k t h ht hh
    rw [show k + (e + 1) + 1 = (k + e + 1) + 1 from by omega, spec_l08Times.l2, if_pos (by rw [mat_length]; omega), if_pos (by omega), if_pos (by rw [tab_length]; omega), if_pos (by omega), if_pos (by rw [mat_length]; omega), if_pos (by omega), rdR_mat n a i hi, if_pos (by rw [tab_length]; omega), rdR_mat n b t (by omega), if_pos (by rw [tab_length]; omega), rd_tab n h j hj, rd_tab n (a i) t (by omega), rd_tab n (b t) j hj, hh, wrap_nat _ (by omega), Int.toNat_natCast, tab_set]
    have hp := ps_small ha hb i j hi hj t (by omega)
    have hm := mul_small (ha i t hi (by omega)) (hb t j (by omega) hj)
    rw [wrap_of (a i t * b t j) (by omega) (by omega), wrap_of _ (by omega) (by omega), ih k (t + 1) _ (by omega) (by rw [if_pos rfl]; rfl)]
    congr 1
    refine tab_congr fun q hq => ?_
    by_cases e : q = j
    · rw [if_pos e, if_pos e]
    · rw [if_neg e, if_neg e, if_neg e]
theorem stimes_l1 (n : Nat) (hn : n ≤ 6) (a b : Nat → Nat → Int) (ha : small n a) (hb : small n b) (x6 : List (List Int)) (h6 : x6.length ≤ 6) (i : Nat) (hi : i < n) : ∀ e k j, j + e = n →
    spec_l08Times.l1 (k + e * (n + 2) + 1) (mat n a) (mat n b) x6 (i : Int) (tab n fun q => if q < j then ps a b i q n else 0) (j : Int) = spec_l08Times.l0 k (mat n a) (mat n b) (x6 ++ [tab n fun q => ps a b i q n]) (wrap64 ((i : Int) + 1)) := by
  intro e
  induction e with
  | zero =>
    intro k j h
    rw [show k + 0 * (n + 2) + 1 = k + 1 from by omega, spec_l08Times.l1, if_neg (by rw [mat_length]; omega), if_pos (by omega)]
    congr 3
    refine tab_congr fun q hq => ?_
    rw [if_pos (by omega)]
  | succ e ih =>
    intro k j h
    rw [show k + (e + 1) * (n + 2) + 1 = ((k + e * (n + 2) + 1) + n + 1) + 1 from by rw [Nat.succ_mul]; omega, spec_l08Times.l1, if_pos (by rw [mat_length]; omega)]
    have := stimes_l2 n hn a b ha hb x6 i j hi (by omega) n (k + e * (n + 2) + 1) 0 (fun q => if q < j then ps a b i q n else 0) (by omega) (by rw [if_neg (by omega)]; rfl)
    rw [show spec_l08Times.l2 ((k + e * (n + 2) + 1) + n + 1) (mat n a) (mat n b) x6 (i : Int) (tab n fun q => if q < j then ps a b i q n else 0) (j : Int) 0 = _ from this, wrap_nat _ (by omega), ← ih k (j + 1) (by omega)]
    congr 1
    refine tab_congr fun q hq => ?_
    by_cases e1 : q = j
    · rw [if_pos e1, if_pos (by omega), e1]
    · by_cases e2 : q < j
      · rw [if_neg e1, if_pos e2, if_pos (by omega)]
      · rw [if_neg e1, if_neg e2, if_neg (by omega)]
theorem stimes_l0 (n : Nat) (hn : n ≤ 6) (a b : Nat → Nat → Int) (ha : small n a) (hb : small n b) : ∀ d k i, i + d = n → d * 60 + 1 ≤ k →
    spec_l08Times.l0 k (mat n a) (mat n b) (tab i fun i => tab n fun q => ps a b i q n) (i : Int) = some (mat n fun i j => ps a b i j n, true) := by
  intro d
  induction d with
  | zero =>
    intro k i h hk
    obtain ⟨k, rfl⟩ : ∃ m, k = m + 1 := ⟨k - 1, by omega⟩
    obtain rfl : i = n := by omega
    rw [spec_l08Times.l0, if_neg (by rw [mat_length]; omega)]
    rfl
  | succ d ih =>
    intro k i h hk
    have hm : n * (n + 2) ≤ 6 * 8 := Nat.mul_le_mul hn (by omega)
    obtain ⟨k, rfl⟩ : ∃ m, k = (m + n * (n + 2) + 1) + 1 := ⟨k - n * (n + 2) - 2, by omega⟩
    rw [spec_l08Times.l0, if_pos (by rw [mat_length]; omega), if_pos (by omega), if_pos (by rw [mat_length]; omega), mat_length, Int.toNat_natCast, tab_rep]
    have := stimes_l1 n hn a b ha hb (tab i fun i => tab n fun q => ps a b i q n) (by rw [tab_length]; omega) i (by omega) n k 0 (by omega)
    have e0 : (tab n fun q => if q < 0 then ps a b i q n else 0) = tab n fun _ => (0 : Int) := tab_congr fun q hq => by rw [if_neg (by omega)]
    rw [e0] at this
    rw [show spec_l08Times.l1 (k + n * (n + 2) + 1) (mat n a) (mat n b) (tab i fun i => tab n fun q => ps a b i q n) (i : Int) (tab n fun _ => 0) 0 = _ from this, wrap_nat _ (by omega), ← tab_succ, ih k (i + 1) (by omega) (by omega)]
theorem stimes_f (k n : Nat) (hn : n ≤ 6) (hk : 400 ≤ k) (a b : Nat → Nat → Int) (ha : small n a) (hb : small n b) : spec_l08Times.f k (mat n a) (mat n b) = some (mat n fun i j => ps a b i j n, true) :=
  stimes_l0 n hn a b ha hb n k 0 (by omega) (by omega)
theorem comm_l1 (n : Nat) (hn : n ≤ 6) (x0 : List (List Int)) (h0 : x0.length = n) (p q : Nat → Nat → Int) (hp : mid n p) (hq : mid n q) (x9 : List (List Int)) (h9 : x9.length ≤ 6) (i : Nat) (hi : i < n) : ∀ e k j, j + e = n →
    spec_l08Commutator.l1 (k + e + 1) x0 (mat n p) (mat n q) x9 (i : Int) (tab j fun j => p i j - q i j) (j : Int) = spec_l08Commutator.l0 k x0 (mat n p) (mat n q) (x9 ++ [tab n fun j => p i j - q i j]) (wrap64 ((i : Int) + 1)) := by
  intro e
  induction e with
  | zero =>
    intro k j h
    obtain rfl : j = n := by omega
    rw [show k + 0 + 1 = k + 1 from rfl, spec_l08Commutator.l1, if_neg (by omega), if_pos (by omega)]
  | succ e ih =>
    intro k j h
    have h1 := hp i j hi (by omega)
    have h2 := hq i j hi (by omega)
    rw [show k + (e + 1) + 1 = (k + e + 1) + 1 from by omega, spec_l08Commutator.l1, if_pos (by omega), if_pos (by omega), if_pos (by rw [mat_length]; omega), if_pos (by omega), rdR_mat n p i hi, rdR_mat n q i hi, if_pos (by rw [tab_length]; omega), if_pos (by rw [mat_length]; omega), if_pos (by rw [tab_length]; omega), if_pos (by rw [tab_length]; omega), rd_tab n (p i) j (by omega), rd_tab n (q i) j (by omega), wrap_of (p i j - q i j) (by omega) (by omega), wrap_nat _ (by omega), show (tab j fun j => p i j - q i j) ++ [p i j - q i j] = tab (j + 1) fun j => p i j - q i j from (tab_succ j fun j => p i j - q i j).symm, ih k (j + 1) (by omega)]
theorem comm_l0 (n : Nat) (hn : n ≤ 6) (x0 : List (List Int)) (h0 : x0.length = n) (p q : Nat → Nat → Int) (hp : mid n p) (hq : mid n q) : ∀ d k i, i + d = n → d * 10 + 1 ≤ k →
    spec_l08Commutator.l0 k x0 (mat n p) (mat n q) (tab i fun i => tab n fun j => p i j - q i j) (i : Int) = some (mat n fun i j => p i j - q i j) := by
  intro d
  induction d with
  | zero =>
    intro k i h hk
    obtain ⟨k, rfl⟩ : ∃ m, k = m + 1 := ⟨k - 1, by omega⟩
    obtain rfl : i = n := by omega
    rw [spec_l08Commutator.l0, if_neg (by omega)]
    rfl
  | succ d ih =>
    intro k i h hk
    obtain ⟨k, rfl⟩ : ∃ m, k = (m + n + 1) + 1 := ⟨k - n - 2, by omega⟩
    rw [spec_l08Commutator.l0, if_pos (by omega)]
    have := comm_l1 n hn x0 h0 p q hp hq (tab i fun i => tab n fun j => p i j - q i j) (by rw [tab_length]; omega) i (by omega) n k 0 (by omega)
    rw [show spec_l08Commutator.l1 (k + n + 1) x0 (mat n p) (mat n q) (tab i fun i => tab n fun j => p i j - q i j) (i : Int) ([] : List Int) 0 = _ from this, wrap_nat _ (by omega), ← tab_succ, ih k (i + 1) (by omega) (by omega)]
def cm (n : Nat) (a b : Nat → Nat → Int) : Nat → Nat → Int := fun i j => ps a b i j n - ps b a i j n
theorem comm_f (k n : Nat) (hn : n ≤ 6) (hk : 400 ≤ k) (a b : Nat → Nat → Int) (ha : small n a) (hb : small n b) : spec_l08Commutator.f k (mat n a) (mat n b) = some (mat n (cm n a b)) := by
  unfold spec_l08Commutator.f
  rw [stimes_f k n hn hk a b ha hb, Option.bind_some, stimes_f k n hn hk b a hb ha, Option.bind_some]
  exact comm_l0 n hn (mat n a) (mat_length _ _) _ _ (ps_mid hn ha hb) (ps_mid hn hb ha) n k 0 (by omega) (by omega)
def allF (p : Nat → Bool) : Nat → Nat → Bool
  | 0, _ => true
  | e + 1, i => p i && allF p e (i + 1)
theorem allF_iff (p : Nat → Bool) : ∀ e i, allF p e i = true ↔ ∀ q, i ≤ q → q < i + e → p q = true := by
  intro e
  induction e with
  | zero => intro i; simp only [allF, true_iff]; intro q h1 h2; omega
  | succ e ih =>
    intro i
    simp only [allF, Bool.and_eq_true, ih]
    refine ⟨fun h q h1 h2 => ?_, fun h => ⟨h i (Nat.le_refl _) (by omega), fun q h1 h2 => h q (by omega) (by omega)⟩⟩
    by_cases e1 : q = i
    · rw [e1]; exact h.1
    · exact h.2 q (by omega) (by omega)
theorem allF_range (p : Nat → Bool) (n : Nat) : allF p n 0 = (List.range n).all p := by
  rw [Bool.eq_iff_iff, allF_iff]
  simp only [List.all_eq_true, List.mem_range]
  exact ⟨fun h q hq => h q (Nat.zero_le _) (by omega), fun h q _ hq => h q (by omega)⟩
def orF (z : Bool) (R : Bool × Int) : Bool × Int := if z = true then R else (false, 0)
theorem sdo_l3 (n : Nat) (hn : n ≤ 6) (l : List (List (List Int))) (x6 x7 : Int) (f : Nat → Nat → Int) (i : Nat) (hi : i < n) (R : Bool × Int) (m : Nat) (hT : ∀ k, m ≤ k → spec_DoTablesCommute.l2 k l x6 x7 (mat n f) (wrap64 ((i : Int) + 1)) = some R) : ∀ e k j, j + e = n → m + e + 1 ≤ k →
    spec_DoTablesCommute.l3 k l x6 x7 (mat n f) (i : Int) (j : Int) = some (orF (allF (fun j => decide (f i j = 0)) e j) R) := by
  intro e
  induction e with
  | zero =>
    intro k j h hk
    obtain ⟨k, rfl⟩ : ∃ m, k = m + 1 := ⟨k - 1, by omega⟩
    rw [spec_DoTablesCommute.l3, if_neg (by rw [mat_length]; omega), hT k (by omega)]
    rfl
  | succ e ih =>
    intro k j h hk
    obtain ⟨k, rfl⟩ : ∃ m, k = m + 1 := ⟨k - 1, by omega⟩
    rw [spec_DoTablesCommute.l3, if_pos (by rw [mat_length]; omega), if_pos (by omega), if_pos (by rw [mat_length]; omega), if_pos (by omega), rdR_mat n f i hi, if_pos (by rw [tab_length]; omega), rd_tab n (f i) j (by omega), wrap_nat _ (by omega), ih k (j + 1) (by omega) (by omega), allF]
    by_cases hz : f i j = 0
    · rw [if_pos hz, decide_eq_true hz, Bool.true_and]
    · rw [if_neg hz, decide_eq_false hz, Bool.false_and]; rfl
theorem orF_and (x y : Bool) (R : Bool × Int) : orF x (orF y R) = orF (x && y) R := by cases x <;> cases y <;> rfl
theorem sdo_l2 (n : Nat) (hn : n ≤ 6) (l : List (List (List Int))) (x6 x7 : Int) (f : Nat → Nat → Int) (R : Bool × Int) (m : Nat) (hT : ∀ k, m ≤ k → spec_DoTablesCommute.l1 k l x6 (wrap64 (x7 + 1)) = some R) : ∀ e k i, i + e = n → m + e * (n + 2) + 1 ≤ k →
    spec_DoTablesCommute.l2 k l x6 x7 (mat n f) (i : Int) = some (orF (allF (fun i => allF (fun j => decide (f i j = 0)) n 0) e i) R) := by
  intro e
  induction e with
  | zero =>
    intro k i h hk
    obtain ⟨k, rfl⟩ : ∃ m, k = m + 1 := ⟨k - 1, by omega⟩
    rw [spec_DoTablesCommute.l2, if_neg (by rw [mat_length]; omega), hT k (by omega)]
    rfl
  | succ e ih =>
    intro k i h hk
    rw [Nat.succ_mul] at hk
    obtain ⟨k, rfl⟩ : ∃ m, k = m + 1 := ⟨k - 1, by omega⟩
    rw [spec_DoTablesCommute.l2, if_pos (by rw [mat_length]; omega)]
    have := sdo_l3 n hn l x6 x7 f i (by omega) _ (m + e * (n + 2) + 1) (fun k hk => by rw [wrap_nat _ (by omega)]; exact ih k (i + 1) (by omega) hk) n k 0 (by omega) (by omega)
    rw [show spec_DoTablesCommute.l3 k l x6 x7 (mat n f) (i : Int) 0 = _ from this, orF_and]
    rfl
theorem zeroM_allF (n : Nat) (f : Nat → Nat → Int) : allF (fun i => allF (fun j => decide (f i j = 0)) n 0) n 0 = zeroM n f := by
  unfold zeroM
  rw [allF_range]
  congr 1
  funext i
  rw [allF_range]
/-- Tables of n rows each. -/
structure Tabs (n : Nat) (l : List (List (List Int))) (F : Nat → Nat → Nat → Int) : Prop where
  len : l.length ≤ 3
  dim : n ≤ 6
  at_ : ∀ q (h : q < l.length), l[q] = mat n (F q) ∧ small n (F q)
def Z (n : Nat) (F : Nat → Nat → Nat → Int) (a b : Nat) : Bool := zeroM n (cm n (F a) (F b))
theorem sdo_l1 {n : Nat} {l : List (List (List Int))} {F : Nat → Nat → Nat → Int} (T : Tabs n l F) (a : Nat) (ha : a < l.length) (R : Bool × Int) (m : Nat) (hm : 500 ≤ m) (hT : ∀ k, m ≤ k → spec_DoTablesCommute.l0 k l (wrap64 ((a : Int) + 1)) = some R) : ∀ e k b, b + e = a → m + e * 60 + 1 ≤ k →
    spec_DoTablesCommute.l1 k l (a : Int) (b : Int) = some (orF (allF (Z n F a) e b) R) := by
  have hl := T.len
  have hn := T.dim
  intro e
  induction e with
  | zero =>
    intro k b h hk
    obtain ⟨k, rfl⟩ : ∃ m, k = m + 1 := ⟨k - 1, by omega⟩
    rw [spec_DoTablesCommute.l1, if_neg (by omega), hT k (by omega)]
    rfl
  | succ e ih =>
    intro k b h hk
    obtain ⟨k, rfl⟩ : ∃ m, k = m + 1 := ⟨k - 1, by omega⟩
    have hb : n * (n + 2) ≤ 6 * 8 := Nat.mul_le_mul hn (by omega)
    obtain ⟨ea, sa⟩ := T.at_ a ha
    obtain ⟨eb, sb⟩ := T.at_ b (by omega)
    rw [spec_DoTablesCommute.l1, if_pos (by omega), if_pos (by omega), if_pos (by omega), if_pos (by omega), if_pos (by omega), rdT_nat l a ha, rdT_nat l b (by omega), ea, eb, comm_f k n hn (by omega) _ _ sa sb, Option.bind_some]
    have := sdo_l2 n hn l (a : Int) (b : Int) (cm n (F a) (F b)) _ (m + e * 60 + 1) (fun k hk => by rw [wrap_nat _ (by omega)]; exact ih k (b + 1) (by omega) hk) n k 0 (by omega) (by omega)
    rw [show spec_DoTablesCommute.l2 k l (a : Int) (b : Int) (mat n (cm n (F a) (F b))) 0 = _ from this, orF_and, zeroM_allF]
    rfl
theorem sdo_l0 {n : Nat} {l : List (List (List Int))} {F : Nat → Nat → Nat → Int} (T : Tabs n l F) : ∀ e k a, a + e = l.length → 500 + e * 200 ≤ k →
    spec_DoTablesCommute.l0 k l (a : Int) = some (orF (allF (fun a => allF (Z n F a) a 0) e a) (true, 0)) := by
  have hl := T.len
  intro e
  induction e with
  | zero =>
    intro k a h hk
    obtain ⟨k, rfl⟩ : ∃ m, k = m + 1 := ⟨k - 1, by omega⟩
    rw [spec_DoTablesCommute.l0, if_neg (by omega)]
    rfl
  | succ e ih =>
    intro k a h hk
    obtain ⟨k, rfl⟩ : ∃ m, k = m + 1 := ⟨k - 1, by omega⟩
    rw [spec_DoTablesCommute.l0, if_pos (by omega)]
    have := sdo_l1 T a (by omega) _ (500 + e * 200) (by omega) (fun k hk => by rw [wrap_nat _ (by omega)]; exact ih k (a + 1) (by omega) hk) a k 0 (by omega) (by omega)
    rw [show spec_DoTablesCommute.l1 k l (a : Int) 0 = _ from this, orF_and]
    rfl
theorem ido_l1 {n : Nat} {l : List (List (List Int))} {F : Nat → Nat → Nat → Int} (T : Tabs n l F) (a : Nat) (ha : a < l.length) (R : Bool × Int) (m : Nat) (hm : 500 ≤ m) (hT : ∀ k, m ≤ k → impl_DoTablesCommute.l0 k l l (l.length : Int) (wrap64 ((a : Int) + 1)) = some R) : ∀ e k b, b + e = l.length → m + e + 1 ≤ k →
    impl_DoTablesCommute.l1 k l (mat n (F a)) l (l.length : Int) (a : Int) l (l.length : Int) (b : Int) = some (orF (allF (Z n F a) e b) R) := by
  have hl := T.len
  have hn := T.dim
  intro e
  induction e with
  | zero =>
    intro k b h hk
    obtain ⟨k, rfl⟩ : ∃ m, k = m + 1 := ⟨k - 1, by omega⟩
    rw [impl_DoTablesCommute.l1, if_neg (by omega), hT k (by omega)]
    rfl
  | succ e ih =>
    intro k b h hk
    obtain ⟨k, rfl⟩ : ∃ m, k = m + 1 := ⟨k - 1, by omega⟩
    obtain ⟨ea, sa⟩ := T.at_ a ha
    obtain ⟨eb, sb⟩ := T.at_ b (by omega)
    rw [impl_DoTablesCommute.l1, if_pos (by omega), if_pos (by omega), if_pos (by omega), rdT_nat l b (by omega), eb, turn_f k n hn (by omega) _ _ sa sb, Option.bind_some, isNothing_mat, Option.bind_some, wrap_nat _ (by omega), ih k (b + 1) (by omega) (by omega), allF]
    rw [show (zeroM n fun i j => ps (F a) (F b) i j n - ps (F b) (F a) i j n) = Z n F a b from rfl]
    cases Z n F a b <;> simp [orF]
theorem ido_l0 {n : Nat} {l : List (List (List Int))} {F : Nat → Nat → Nat → Int} (T : Tabs n l F) : ∀ e k a, a + e = l.length → 500 + e * 20 ≤ k →
    impl_DoTablesCommute.l0 k l l (l.length : Int) (a : Int) = some (orF (allF (fun a => allF (Z n F a) l.length 0) e a) (true, 0)) := by
  have hl := T.len
  intro e
  induction e with
  | zero =>
    intro k a h hk
    obtain ⟨k, rfl⟩ : ∃ m, k = m + 1 := ⟨k - 1, by omega⟩
    rw [impl_DoTablesCommute.l0, if_neg (by omega)]
    rfl
  | succ e ih =>
    intro k a h hk
    obtain ⟨k, rfl⟩ : ∃ m, k = m + 1 := ⟨k - 1, by omega⟩
    rw [impl_DoTablesCommute.l0, if_pos (by omega), if_pos (by omega), if_pos (by omega), rdT_nat l a (by omega), (T.at_ a (by omega)).1]
    have := ido_l1 T a (by omega) _ (500 + e * 20) (by omega) (fun k hk => by rw [wrap_nat _ (by omega)]; exact ih k (a + 1) (by omega) hk) l.length k 0 (by omega) (by omega)
    rw [show impl_DoTablesCommute.l1 k l (mat n (F a)) l (l.length : Int) (a : Int) l (l.length : Int) 0 = _ from this, orF_and]
    rfl
theorem Z_symm (n : Nat) (F : Nat → Nat → Nat → Int) (a b : Nat) : Z n F a b = Z n F b a := by
  unfold Z zeroM cm
  congr 1; funext i; congr 1; funext j
  rw [Bool.eq_iff_iff]
  simp only [decide_eq_true_eq]
  omega
theorem Z_refl (n : Nat) (F : Nat → Nat → Nat → Int) (a : Nat) : Z n F a a = true := by
  unfold Z zeroM cm
  simp
theorem Z_all (n m : Nat) (F : Nat → Nat → Nat → Int) : allF (fun a => allF (Z n F a) a 0) m 0 = allF (fun a => allF (Z n F a) m 0) m 0 := by
  rw [Bool.eq_iff_iff]
  simp only [allF_iff]
  refine ⟨fun h a _ ha b _ hb => ?_, fun h a _ ha b _ hb => h a (Nat.zero_le _) ha b (Nat.zero_le _) (by omega)⟩
  rcases Nat.lt_trichotomy a b with e | e | e
  · rw [Z_symm]; exact h b (Nat.zero_le _) hb a (Nat.zero_le _) (by omega)
  · rw [e]; exact Z_refl n F b
  · exact h a (Nat.zero_le _) ha b (Nat.zero_le _) (by omega)
theorem areTabs_tabs {d : Int} {l : List (List (List Int))} (h : areTabs d l = true) : Tabs (dimOf l).toNat l (fun q => ent (l.getD q [])) := by
  unfold areTabs at h
  simp only [Bool.and_eq_true, decide_eq_true_eq, List.all_eq_true] at h
  refine ⟨by omega, by omega, fun q hq => ?_⟩
  have := sq_mat (h.2 l[q] (List.getElem_mem hq))
  rw [show l.getD q [] = l[q] from by simp [List.getD_eq_getElem?_getD, hq]]
  exact this
def commRes (d : Int) (l : List (List (List Int))) : Bool × Int := if areTabs d l = true then orF (allF (fun a => allF (Z (dimOf l).toNat (fun q => ent (l.getD q [])) a) l.length 0) l.length 0) (true, 0) else (false, 1)
theorem spec_DoTablesCommute_f (k : Nat) (d : Int) (l : List (List (List Int))) (hk : 2000 ≤ k) (hl : l.length ≤ 4000000) : spec_DoTablesCommute.f k d l = some (commRes d l) := by
  unfold spec_DoTablesCommute.f commRes
  rw [spec_l08Are_f k d l (by omega) hl, Option.bind_some]
  by_cases h : areTabs d l = true
  · have T := areTabs_tabs h
    have := sdo_l0 T l.length k 0 (by omega) (by have := T.len; omega)
    rw [if_pos h, if_pos h, show spec_DoTablesCommute.l0 k l 0 = _ from this, Z_all]
  · rw [if_neg h, if_neg h]
theorem impl_DoTablesCommute_f (k : Nat) (d : Int) (l : List (List (List Int))) (hk : 2000 ≤ k) : impl_DoTablesCommute.f k d l = some (commRes d l) := by
  unfold impl_DoTablesCommute.f commRes
  rw [impl_AreTables_f d l, Option.bind_some]
  by_cases h : areTabs d l = true
  · have T := areTabs_tabs h
    have := ido_l0 T l.length k 0 (by omega) (by have := T.len; omega)
    rw [if_pos h, if_pos h, show impl_DoTablesCommute.l0 k l l (l.length : Int) 0 = _ from this]
  · rw [if_neg h, if_neg h]

end Go.Proofs.Ytbpipmkgclkhgaa.Pure
