/- Plain lemmas: commutators of matrices, in both programs. -/
import Derived.Test.YtbpipmkgclkhgaaPx6
import Derived.Test.YtbpipmkgclkhgaaPx9
import Derived.Test.YtbpipmkgclkhgaaPx7
import Derived.Test.YtbpipmkgclkhgaaPx10
import Derived.Test.YtbpipmkgclkhgaaBaseAre
namespace Go.Proofs.Ytbpipmkgclkhgaa.Pure
open Go.RowKit Go.Proofs.Ytbpipmkgclkhgaa.P Go.Proofs.YtbpipmkgclkhgaaW.PrintWords Go.Proofs.YtbpipmkgclkhgaaW.PrintLast
set_option linter.unusedVariables false
set_option linter.unusedSimpArgs false

/-- A list by its places. -/
def tab {α : Type} (n : Nat) (g : Nat → α) : List α := (List.range n).map g
theorem tab_length {α : Type} (n : Nat) (g : Nat → α) : (tab n g).length = n := by simp [tab]
theorem tab_get {α : Type} (n : Nat) (g : Nat → α) (i : Nat) (h : i < (tab n g).length) : (tab n g)[i] = g i := by simp [tab]
theorem tab_congr {α : Type} {n : Nat} {g g' : Nat → α} (h : ∀ i, i < n → g i = g' i) : tab n g = tab n g' := by
  unfold tab
  exact List.map_congr_left (fun i hi => h i (List.mem_range.1 hi))
theorem tab_set {α : Type} (n : Nat) (g : Nat → α) (i : Nat) (v : α) : (tab n g).set i v = tab n (fun j => if j = i then v else g j) := by
  apply List.ext_getElem
  · simp [tab]
  · intro j h1 h2
    simp only [tab, List.getElem_set, List.getElem_map, List.getElem_range]
    by_cases e : i = j
    · simp [e]
    · simp [e, Ne.symm e]
theorem tab_succ {α : Type} (n : Nat) (g : Nat → α) : tab (n + 1) g = tab n g ++ [g n] := by simp [tab, List.range_succ]
theorem tab_rep {α : Type} (n : Nat) (v : α) : List.replicate n v = tab n (fun _ => v) := by
  apply List.ext_getElem
  · simp [tab]
  · intro j h1 h2; simp [tab]
theorem rd_tab (n : Nat) (g : Nat → Int) (i : Nat) (h : i < n) : rd (tab n g) (i : Int) = g i := by
  rw [rd_nat _ i (by rw [tab_length]; exact h)]; exact tab_get n g i _
theorem rdR_tab (n : Nat) (g : Nat → List Int) (i : Nat) (h : i < n) : rd_L1 (tab n g) (i : Int) = g i := by
  rw [rdR_nat _ i (by rw [tab_length]; exact h)]; exact tab_get n g i _
theorem all_tab {α : Type} (n : Nat) (g : Nat → α) (p : α → Bool) : (tab n g).all p = (List.range n).all (fun i => p (g i)) := by
  unfold tab; rw [List.all_map]; rfl
/-- A square matrix by its entries. -/
def mat (n : Nat) (f : Nat → Nat → Int) : List (List Int) := tab n fun i => tab n (f i)
def ent (m : List (List Int)) (i j : Nat) : Int := (m.getD i []).getD j 0
theorem sq_mat {n : Nat} {m : List (List Int)} (h : isSq n m = true) : m = mat n (ent m) ∧ ∀ i j, i < n → j < n → -1000 ≤ ent m i j ∧ ent m i j ≤ 1000 := by
  unfold isSq at h
  simp only [Bool.and_eq_true, decide_eq_true_eq, List.all_eq_true, okEntry] at h
  obtain ⟨hl, hr⟩ := h
  have hm : ∀ i (hi : i < m.length), m[i] = tab n (ent m i) := by
    intro i hi
    obtain ⟨h1, h2⟩ := hr m[i] (List.getElem_mem hi)
    apply List.ext_getElem
    · rw [tab_length]; exact h1
    · intro j h3 h4
      rw [tab_get]
      simp [ent, List.getD_eq_getElem?_getD, hi, h3]
  refine ⟨?_, fun i j hi hj => ?_⟩
  · apply List.ext_getElem
    · unfold mat; rw [tab_length]; exact hl
    · intro i h1 h2
      rw [show (mat n (ent m))[i] = tab n (ent m i) from tab_get n _ i h2]; exact hm i h1
  · obtain ⟨h1, h2⟩ := hr (m[i]'(by omega)) (List.getElem_mem (by omega))
    have hj' : j < (m[i]'(by omega)).length := by omega
    have := h2 ((m[i]'(by omega))[j]) (List.getElem_mem hj')
    have e : ent m i j = (m[i]'(by omega))[j] := by simp [ent, List.getD_eq_getElem?_getD, show i < m.length by omega, hj']
    rw [e]; exact this
/-- The sum of the first t products. -/
def ps (a b : Nat → Nat → Int) (i j : Nat) : Nat → Int
  | 0 => 0
  | t + 1 => ps a b i j t + a i t * b t j
def small (n : Nat) (a : Nat → Nat → Int) : Prop := ∀ i j, i < n → j < n → -1000 ≤ a i j ∧ a i j ≤ 1000
theorem mul_small {x y : Int} (hx : -1000 ≤ x ∧ x ≤ 1000) (hy : -1000 ≤ y ∧ y ≤ 1000) : -1000000 ≤ x * y ∧ x * y ≤ 1000000 := by
  have h1 := Int.mul_nonneg (show 0 ≤ 1000 - x by omega) (show 0 ≤ 1000 - y by omega)
  have h2 := Int.mul_nonneg (show 0 ≤ 1000 + x by omega) (show 0 ≤ 1000 + y by omega)
  have h3 := Int.mul_nonneg (show 0 ≤ 1000 - x by omega) (show 0 ≤ 1000 + y by omega)
  have h4 := Int.mul_nonneg (show 0 ≤ 1000 + x by omega) (show 0 ≤ 1000 - y by omega)
  simp only [Int.sub_mul, Int.add_mul, Int.mul_sub, Int.mul_add] at h1 h2 h3 h4
  generalize x * y = z at *
  omega
theorem ps_small {n : Nat} {a b : Nat → Nat → Int} (ha : small n a) (hb : small n b) (i j : Nat) (hi : i < n) (hj : j < n) : ∀ t, t ≤ n → -(1000000 * (t : Int)) ≤ ps a b i j t ∧ ps a b i j t ≤ 1000000 * (t : Int) := by
  intro t
  induction t with
  | zero => intro _; simp [ps]
  | succ t ih =>
    intro ht
    have := ih (by omega)
    have hm := mul_small (ha i t hi (by omega)) (hb t j (by omega) hj)
    simp only [ps]
    omega
theorem multiplied_l0 (n : Nat) (hn : n ≤ 6) (c : Int) : ∀ d k i (h : Nat → Int), i + d = n → d < k → impl_multiplied.l0 k c (tab n h) (n : Int) (i : Int) = some (tab n fun j => if i ≤ j then wrap64 (h j * c) else h j) := by
  intro d
  induction d with
  | zero =>
    intro k i h hi hk
    obtain ⟨k, rfl⟩ : ∃ m, k = m + 1 := ⟨k - 1, by omega⟩
    rw [impl_multiplied.l0, if_neg (by omega)]
    exact congrArg some (tab_congr fun j hj => by rw [if_neg (by omega)])
  | succ d ih =>
    intro k i h hi hk
    obtain ⟨k, rfl⟩ : ∃ m, k = m + 1 := ⟨k - 1, by omega⟩
    rw [impl_multiplied.l0, if_pos (by omega), if_pos (by omega), if_pos (by rw [tab_length]; omega), rd_tab n h i (by omega), wrap_nat _ (by omega), Int.toNat_natCast, tab_set, ih k (i + 1) _ (by omega) (by omega)]
    refine congrArg some (tab_congr fun j hj => ?_)
    by_cases e : j = i
    · subst e; rw [if_neg (by omega), if_pos rfl, if_pos (by omega)]
    · by_cases e2 : i ≤ j
      · rw [if_pos (by omega), if_neg e, if_pos e2]
      · rw [if_neg (by omega), if_neg e, if_neg e2]
theorem multiplied_f (k n : Nat) (hn : n ≤ 6) (hk : 7 ≤ k) (c : Int) (h : Nat → Int) : impl_multiplied.f k (tab n h) c = some (tab n fun j => wrap64 (h j * c)) := by
  unfold impl_multiplied.f slices_Clone_int64_int64.f
  rw [if_pos (by rw [tab_length]; omega), Option.bind_some, tab_length, show impl_multiplied.l0 k c (tab n h) (n : Int) 0 = _ from multiplied_l0 n hn c n k 0 h (by omega) (by omega)]
  simp
theorem added_l0 (n : Nat) (hn : n ≤ 6) (s : Nat → Int) : ∀ d k i (h : Nat → Int), i + d = n → d < k → impl_added.l0 k (tab n h) (tab n s) (n : Int) (i : Int) = some (tab n fun j => if i ≤ j then wrap64 (h j + s j) else h j) := by
  intro d
  induction d with
  | zero =>
    intro k i h hi hk
    obtain ⟨k, rfl⟩ : ∃ m, k = m + 1 := ⟨k - 1, by omega⟩
    rw [impl_added.l0, if_neg (by omega)]
    exact congrArg some (tab_congr fun j hj => by rw [if_neg (by omega)])
  | succ d ih =>
    intro k i h hi hk
    obtain ⟨k, rfl⟩ : ∃ m, k = m + 1 := ⟨k - 1, by omega⟩
    rw [impl_added.l0, if_pos (by omega), if_pos (by omega), if_pos (by rw [tab_length]; omega), if_pos (by rw [tab_length]; omega), rd_tab n h i (by omega), rd_tab n s i (by omega), wrap_nat _ (by omega), Int.toNat_natCast, tab_set, ih k (i + 1) _ (by omega) (by omega)]
    refine congrArg some (tab_congr fun j hj => ?_)
    by_cases e : j = i
    · subst e; rw [if_neg (by omega), if_pos rfl, if_pos (by omega)]
    · by_cases e2 : i ≤ j
      · rw [if_pos (by omega), if_neg e, if_pos e2]
      · rw [if_neg (by omega), if_neg e, if_neg e2]
theorem added_f (k n : Nat) (hn : n ≤ 6) (hk : 7 ≤ k) (h s : Nat → Int) : impl_added.f k (tab n h) (tab n s) = some (tab n fun j => wrap64 (h j + s j)) := by
  unfold impl_added.f slices_Clone_int64_int64.f
  rw [if_pos (by rw [tab_length]; omega), Option.bind_some, tab_length, show impl_added.l0 k (tab n h) (tab n s) (n : Int) 0 = _ from added_l0 n hn s n k 0 h (by omega) (by omega)]
  simp
theorem square_l0 (n : Nat) (hn : n ≤ 6) : ∀ d k i (G : Nat → List Int), i + d = n → d < k → impl_square.l0 k (n : Int) (tab n G) (n : Int) (i : Int) = some (tab n fun q => if i ≤ q then tab n (fun _ => 0) else G q) := by
  intro d
  induction d with
  | zero =>
    intro k i G hi hk
    obtain ⟨k, rfl⟩ : ∃ m, k = m + 1 := ⟨k - 1, by omega⟩
    rw [impl_square.l0, if_neg (by omega)]
    exact congrArg some (tab_congr fun j hj => by rw [if_neg (by omega)])
  | succ d ih =>
    intro k i G hi hk
    obtain ⟨k, rfl⟩ : ∃ m, k = m + 1 := ⟨k - 1, by omega⟩
    rw [impl_square.l0, if_pos (by omega), if_pos (by omega), if_pos (by omega), if_pos (by omega), if_pos (by rw [tab_length]; omega), wrap_nat _ (by omega), Int.toNat_natCast, Int.toNat_natCast, tab_set, ih k (i + 1) _ (by omega) (by omega)]
    refine congrArg some (tab_congr fun j hj => ?_)
    by_cases e : j = i
    · subst e; simp [tab_rep]
    · by_cases e2 : i ≤ j
      · rw [if_pos (by omega), if_pos e2]
      · rw [if_neg (by omega), if_neg e, if_neg e2]
theorem square_f (k n : Nat) (hn : n ≤ 6) (hk : 7 ≤ k) : impl_square.f k (n : Int) = some (mat n fun _ _ => 0) := by
  unfold impl_square.f
  rw [if_pos (by omega), if_pos (by omega), Option.bind_some, Int.toNat_natCast, List.length_replicate, tab_rep, show impl_square.l0 k (n : Int) (tab n fun _ => []) (n : Int) 0 = _ from square_l0 n hn n k 0 _ (by omega) (by omega)]
  simp [mat]
theorem times_l1 (n : Nat) (hn : n ≤ 6) (a b : Nat → Nat → Int) (ha : small n a) (hb : small n b) (i : Nat) (hi : i < n) : ∀ e k t (G : Nat → List Int), t + e = n → 7 ≤ k → G i = tab n (fun j => ps a b i j t) →
    impl_timesMatrix.l1 (k + e + 1) (mat n b) (tab n G) (i : Int) (mat n a) (n : Int) (i : Int) (tab n (a i)) (n : Int) (t : Int) = impl_timesMatrix.l0 k (mat n b) (tab n fun q => if q = i then tab n (fun j => ps a b i j n) else G q) (mat n a) (n : Int) (wrap64 ((i : Int) + 1)) := by
  intro e
  induction e with
  | zero =>
    intro k t G h hk hG
    obtain rfl : t = n := by omega
    rw [show k + 0 + 1 = k + 1 from rfl, impl_timesMatrix.l1, if_neg (by omega)]
    congr 1
    refine tab_congr fun q hq => ?_
    by_cases e : q = i
    · rw [if_pos e, e, hG]
    · rw [if_neg e]
  | succ e ih =>
    intro k t G h hk hG
    rw [show k + (e + 1) + 1 = (k + e + 1) + 1 from by omega, impl_timesMatrix.l1, if_pos (by omega), if_pos (by omega), if_pos (by rw [tab_length]; omega), if_pos (by omega), if_pos (by rw [tab_length]; omega), if_pos (by unfold mat; rw [tab_length]; omega), rd_tab n (a i) t (by omega), show rd_L1 (mat n b) (t : Int) = tab n (b t) from rdR_tab n _ t (by omega), multiplied_f _ n hn (by omega), Option.bind_some, rdR_tab n G i hi, hG, added_f _ n hn (by omega), Option.bind_some, wrap_nat _ (by omega), Int.toNat_natCast, tab_set]
    rw [ih k (t + 1) _ (by omega) hk ?_]
    · congr 1
      refine tab_congr fun q hq => ?_
      by_cases e : q = i
      · rw [if_pos e, if_pos e]
      · rw [if_neg e, if_neg e, if_neg e]
    · rw [if_pos rfl]
      refine tab_congr fun j hj => ?_
      have hp := ps_small ha hb i j hi hj t (by omega)
      have hm := mul_small (ha i t hi (by omega)) (hb t j (by omega) hj)
      rw [Int.mul_comm (b t j), wrap_of (a i t * b t j) (by omega) (by omega), wrap_of _ (by omega) (by omega)]
      rfl
theorem times_l0 (n : Nat) (hn : n ≤ 6) (a b : Nat → Nat → Int) (ha : small n a) (hb : small n b) : ∀ d k i, i + d = n → d * 20 + 20 ≤ k →
    impl_timesMatrix.l0 k (mat n b) (tab n fun q => if q < i then tab n (fun j => ps a b q j n) else tab n (fun _ => 0)) (mat n a) (n : Int) (i : Int) = some (mat n fun i j => ps a b i j n) := by
  intro d
  induction d with
  | zero =>
    intro k i h hk
    obtain ⟨k, rfl⟩ : ∃ m, k = m + 1 := ⟨k - 1, by omega⟩
    rw [impl_timesMatrix.l0, if_neg (by omega)]
    exact congrArg some (tab_congr fun q hq => by rw [if_pos (by omega)])
  | succ d ih =>
    intro k i h hk
    obtain ⟨k, rfl⟩ : ∃ m, k = (m + n + 1) + 1 := ⟨k - n - 2, by omega⟩
    rw [impl_timesMatrix.l0, if_pos (by omega), if_pos (by omega), if_pos (by unfold mat; rw [tab_length]; omega), show rd_L1 (mat n a) (i : Int) = tab n (a i) from rdR_tab n _ i (by omega), tab_length]
    have := times_l1 n hn a b ha hb i (by omega) n k 0 (fun q => if q < i then tab n (fun j => ps a b q j n) else tab n (fun _ => 0)) (by omega) (by omega) (by rw [if_neg (by omega)]; rfl)
    rw [show impl_timesMatrix.l1 (k + n + 1) (mat n b) (tab n fun q => if q < i then tab n (fun j => ps a b q j n) else tab n (fun _ => 0)) (i : Int) (mat n a) (n : Int) (i : Int) (tab n (a i)) (n : Int) 0 = _ from this, wrap_nat _ (by omega), ← ih k (i + 1) (by omega) (by omega)]
    congr 1
    refine tab_congr fun q hq => ?_
    by_cases e : q = i
    · rw [if_pos e, if_pos (by omega), e]
    · by_cases e2 : q < i
      · rw [if_neg e, if_pos e2, if_pos (by omega)]
      · rw [if_neg e, if_neg e2, if_neg (by omega)]
theorem times_f (k n : Nat) (hn : n ≤ 6) (hk : 200 ≤ k) (a b : Nat → Nat → Int) (ha : small n a) (hb : small n b) : impl_timesMatrix.f k (mat n a) (mat n b) = some (mat n fun i j => ps a b i j n) := by
  unfold impl_timesMatrix.f
  rw [show (mat n a).length = n from tab_length _ _, square_f k n hn (by omega), Option.bind_some]
  have := times_l0 n hn a b ha hb n k 0 (by omega) (by omega)
  simpa [mat] using this
/-- Small enough for a difference. -/
def mid (n : Nat) (p : Nat → Nat → Int) : Prop := ∀ i j, i < n → j < n → -6000000 ≤ p i j ∧ p i j ≤ 6000000
theorem ps_mid {n : Nat} (hn : n ≤ 6) {a b : Nat → Nat → Int} (ha : small n a) (hb : small n b) : mid n fun i j => ps a b i j n := by
  intro i j hi hj
  have := ps_small ha hb i j hi hj n (Nat.le_refl _)
  show -6000000 ≤ ps a b i j n ∧ ps a b i j n ≤ 6000000
  omega
theorem less_l0 (n : Nat) (hn : n ≤ 6) (p q : Nat → Nat → Int) (hp : mid n p) (hq : mid n q) : ∀ d k i, i + d = n → d + 10 ≤ k →
    impl_lessMatrix.l0 k (mat n q) (tab i fun i => tab n fun j => p i j - q i j) (mat n p) (n : Int) (i : Int) = some (mat n fun i j => p i j - q i j) := by
  intro d
  induction d with
  | zero =>
    intro k i h hk
    obtain ⟨k, rfl⟩ : ∃ m, k = m + 1 := ⟨k - 1, by omega⟩
    obtain rfl : i = n := by omega
    rw [impl_lessMatrix.l0, if_neg (by omega)]
    rfl
  | succ d ih =>
    intro k i h hk
    obtain ⟨k, rfl⟩ : ∃ m, k = m + 1 := ⟨k - 1, by omega⟩
    have hl : ∀ f, (mat n f).length = n := fun f => tab_length _ _
    rw [impl_lessMatrix.l0, if_pos (by omega), if_pos (by omega), if_pos (by rw [hl]; omega), if_pos (by rw [hl]; omega), show rd_L1 (mat n q) (i : Int) = tab n (q i) from rdR_tab n _ i (by omega), multiplied_f _ n hn (by omega), Option.bind_some, show rd_L1 (mat n p) (i : Int) = tab n (p i) from rdR_tab n _ i (by omega), added_f _ n hn (by omega), Option.bind_some, if_pos (by rw [tab_length]; omega), wrap_nat _ (by omega), ← ih k (i + 1) (by omega) (by omega), tab_succ]
    congr 3
    refine tab_congr fun j hj => ?_
    have h1 := hp i j (by omega) hj
    have h2 := hq i j (by omega) hj
    rw [show q i j * -1 = -(q i j) from by omega, wrap_of (-(q i j)) (by omega) (by omega), wrap_of _ (by omega) (by omega)]
    omega
theorem turn_f (k n : Nat) (hn : n ≤ 6) (hk : 200 ≤ k) (a b : Nat → Nat → Int) (ha : small n a) (hb : small n b) : impl_turn.f k (mat n a) (mat n b) = some (mat n fun i j => ps a b i j n - ps b a i j n) := by
  unfold impl_turn.f impl_lessMatrix.f
  rw [times_f k n hn hk a b ha hb, Option.bind_some, times_f k n hn hk b a hb ha, Option.bind_some, show (mat n fun i j => ps a b i j n).length = n from tab_length _ _]
  have := less_l0 n hn _ _ (ps_mid hn ha hb) (ps_mid hn hb ha) n k 0 (by omega) (by omega)
  have this' : impl_lessMatrix.l0 k (mat n fun i j => ps b a i j n) ([] : List (List Int)) (mat n fun i j => ps a b i j n) (n : Int) 0 = _ := this
  rw [this']
  rfl
theorem mat_length (n : Nat) (f : Nat → Nat → Int) : (mat n f).length = n := tab_length _ _
theorem rdR_mat (n : Nat) (f : Nat → Nat → Int) (i : Nat) (h : i < n) : rd_L1 (mat n f) (i : Int) = tab n (f i) := rdR_tab n _ i h
theorem stimes_l2 (n : Nat) (hn : n ≤ 6) (a b : Nat → Nat → Int) (ha : small n a) (hb : small n b) (x6 : List (List Int)) (i j : Nat) (hi : i < n) (hj : j < n) : ∀ e k t (h : Nat → Int), t + e = n → h j = ps a b i j t →
    spec_l08Times.l2 (k + e + 1) (mat n a) (mat n b) x6 (i : Int) (tab n h) (j : Int) (t : Int) = spec_l08Times.l1 k (mat n a) (mat n b) x6 (i : Int) (tab n fun q => if q = j then ps a b i j n else h q) (wrap64 ((j : Int) + 1)) := by
  intro e
  induction e with
  | zero =>
    intro k t h ht hh
    obtain rfl : t = n := by omega
    have hp := ps_small ha hb i j hi hj t (Nat.le_refl _)
    rw [show k + 0 + 1 = k + 1 from rfl, spec_l08Times.l2, if_neg (by rw [mat_length]; omega), if_pos (by omega), if_pos (by rw [tab_length]; omega), rd_tab t h j hj, hh, spec_l01In_f, Option.bind_some, if_pos (by simp; omega)]
    congr 1
    refine tab_congr fun q hq => ?_
    by_cases e : q = j
    · rw [if_pos e, e, hh]
    · rw [if_neg e]
  | succ e ih =>
    intro k t h ht hh
    rw [show k + (e + 1) + 1 = (k + e + 1) + 1 from by omega, spec_l08Times.l2, if_pos (by rw [mat_length]; omega), if_pos (by omega), if_pos (by rw [tab_length]; omega), if_pos (by omega), if_pos (by rw [mat_length]; omega), if_pos (by omega), rdR_mat n a i hi, if_pos (by rw [tab_length]; omega), rdR_mat n b t (by omega), if_pos (by rw [tab_length]; omega), rd_tab n h j hj, rd_tab n (a i) t (by omega), rd_tab n (b t) j hj, hh, wrap_nat _ (by omega), Int.toNat_natCast, tab_set]
    have hp := ps_small ha hb i j hi hj t (by omega)
    have hm := mul_small (ha i t hi (by omega)) (hb t j (by omega) hj)
    rw [wrap_of (a i t * b t j) (by omega) (by omega), wrap_of _ (by omega) (by omega), ih k (t + 1) _ (by omega) (by rw [if_pos rfl]; rfl)]
    congr 1
    refine tab_congr fun q hq => ?_
    by_cases e : q = j
    · rw [if_pos e, if_pos e]
    · rw [if_neg e, if_neg e, if_neg e]
theorem stimes_l1 (n : Nat) (hn : n ≤ 6) (a b : Nat → Nat → Int) (ha : small n a) (hb : small n b) (x6 : List (List Int)) (h6 : x6.length ≤ 6) (i : Nat) (hi : i < n) : ∀ e k j, j + e = n →
    spec_l08Times.l1 (k + e * (n + 2) + 1) (mat n a) (mat n b) x6 (i : Int) (tab n fun q => if q < j then ps a b i q n else 0) (j : Int) = spec_l08Times.l0 k (mat n a) (mat n b) (x6 ++ [tab n fun q => ps a b i q n]) (wrap64 ((i : Int) + 1)) := by
  intro e
  induction e with
  | zero =>
    intro k j h
    rw [show k + 0 * (n + 2) + 1 = k + 1 from by omega, spec_l08Times.l1, if_neg (by rw [mat_length]; omega), if_pos (by omega)]
    congr 3
    refine tab_congr fun q hq => ?_
    rw [if_pos (by omega)]
  | succ e ih =>
    intro k j h
    rw [show k + (e + 1) * (n + 2) + 1 = ((k + e * (n + 2) + 1) + n + 1) + 1 from by rw [Nat.succ_mul]; omega, spec_l08Times.l1, if_pos (by rw [mat_length]; omega)]
    have := stimes_l2 n hn a b ha hb x6 i j hi (by omega) n (k + e * (n + 2) + 1) 0 (fun q => if q < j then ps a b i q n else 0) (by omega) (by rw [if_neg (by omega)]; rfl)
    rw [show spec_l08Times.l2 ((k + e * (n + 2) + 1) + n + 1) (mat n a) (mat n b) x6 (i : Int) (tab n fun q => if q < j then ps a b i q n else 0) (j : Int) 0 = _ from this, wrap_nat _ (by omega), ← ih k (j + 1) (by omega)]
    congr 1
    refine tab_congr fun q hq => ?_
    by_cases e1 : q = j
    · rw [if_pos e1, if_pos (by omega), e1]
    · by_cases e2 : q < j
      · rw [if_neg e1, if_pos e2, if_pos (by omega)]
      · rw [if_neg e1, if_neg e2, if_neg (by omega)]
theorem stimes_l0 (n : Nat) (hn : n ≤ 6) (a b : Nat → Nat → Int) (ha : small n a) (hb : small n b) : ∀ d k i, i + d = n → d * 60 + 1 ≤ k →
    spec_l08Times.l0 k (mat n a) (mat n b) (tab i fun i => tab n fun q => ps a b i q n) (i : Int) = some (mat n fun i j => ps a b i j n, true) := by
  intro d
  induction d with
  | zero =>
    intro k i h hk
    obtain ⟨k, rfl⟩ : ∃ m, k = m + 1 := ⟨k - 1, by omega⟩
    obtain rfl : i = n := by omega
    rw [spec_l08Times.l0, if_neg (by rw [mat_length]; omega)]
    rfl
  | succ d ih =>
    intro k i h hk
    have hm : n * (n + 2) ≤ 6 * 8 := Nat.mul_le_mul hn (by omega)
    obtain ⟨k, rfl⟩ : ∃ m, k = (m + n * (n + 2) + 1) + 1 := ⟨k - n * (n + 2) - 2, by omega⟩
    rw [spec_l08Times.l0, if_pos (by rw [mat_length]; omega), if_pos (by omega), if_pos (by rw [mat_length]; omega), mat_length, Int.toNat_natCast, tab_rep]
    have := stimes_l1 n hn a b ha hb (tab i fun i => tab n fun q => ps a b i q n) (by rw [tab_length]; omega) i (by omega) n k 0 (by omega)
    have e0 : (tab n fun q => if q < 0 then ps a b i q n else 0) = tab n fun _ => (0 : Int) := tab_congr fun q hq => by rw [if_neg (by omega)]
    rw [e0] at this
    rw [show spec_l08Times.l1 (k + n * (n + 2) + 1) (mat n a) (mat n b) (tab i fun i => tab n fun q => ps a b i q n) (i : Int) (tab n fun _ => 0) 0 = _ from this, wrap_nat _ (by omega), ← tab_succ, ih k (i + 1) (by omega) (by omega)]
theorem stimes_f (k n : Nat) (hn : n ≤ 6) (hk : 400 ≤ k) (a b : Nat → Nat → Int) (ha : small n a) (hb : small n b) : spec_l08Times.f k (mat n a) (mat n b) = some (mat n fun i j => ps a b i j n, true) :=
  stimes_l0 n hn a b ha hb n k 0 (by omega) (by omega)
theorem comm_l1 (n : Nat) (hn : n ≤ 6) (x0 : List (List Int)) (h0 : x0.length = n) (p q : Nat → Nat → Int) (hp : mid n p) (hq : mid n q) (x9 : List (List Int)) (h9 : x9.length ≤ 6) (i : Nat) (hi : i < n) : ∀ e k j, j + e = n →
    spec_l08Commutator.l1 (k + e + 1) x0 (mat n p) (mat n q) x9 (i : Int) (tab j fun j => p i j - q i j) (j : Int) = spec_l08Commutator.l0 k x0 (mat n p) (mat n q) (x9 ++ [tab n fun j => p i j - q i j]) (wrap64 ((i : Int) + 1)) := by
  intro e
  induction e with
  | zero =>
    intro k j h
    obtain rfl : j = n := by omega
    rw [show k + 0 + 1 = k + 1 from rfl, spec_l08Commutator.l1, if_neg (by omega), if_pos (by omega)]
  | succ e ih =>
    intro k j h
    have h1 := hp i j hi (by omega)
    have h2 := hq i j hi (by omega)
    rw [show k + (e + 1) + 1 = (k + e + 1) + 1 from by omega, spec_l08Commutator.l1, if_pos (by omega), if_pos (by omega), if_pos (by rw [mat_length]; omega), if_pos (by omega), rdR_mat n p i hi, rdR_mat n q i hi, if_pos (by rw [tab_length]; omega), if_pos (by rw [mat_length]; omega), if_pos (by rw [tab_length]; omega), if_pos (by rw [tab_length]; omega), rd_tab n (p i) j (by omega), rd_tab n (q i) j (by omega), wrap_of (p i j - q i j) (by omega) (by omega), wrap_nat _ (by omega), show (tab j fun j => p i j - q i j) ++ [p i j - q i j] = tab (j + 1) fun j => p i j - q i j from (tab_succ j fun j => p i j - q i j).symm, ih k (j + 1) (by omega)]
theorem comm_l0 (n : Nat) (hn : n ≤ 6) (x0 : List (List Int)) (h0 : x0.length = n) (p q : Nat → Nat → Int) (hp : mid n p) (hq : mid n q) : ∀ d k i, i + d = n → d * 10 + 1 ≤ k →
    spec_l08Commutator.l0 k x0 (mat n p) (mat n q) (tab i fun i => tab n fun j => p i j - q i j) (i : Int) = some (mat n fun i j => p i j - q i j) := by
  intro d
  induction d with
  | zero =>
    intro k i h hk
    obtain ⟨k, rfl⟩ : ∃ m, k = m + 1 := ⟨k - 1, by omega⟩
    obtain rfl : i = n := by omega
    rw [spec_l08Commutator.l0, if_neg (by omega)]
    rfl
  | succ d ih =>
    intro k i h hk
    obtain ⟨k, rfl⟩ : ∃ m, k = (m + n + 1) + 1 := ⟨k - n - 2, by omega⟩
    rw [spec_l08Commutator.l0, if_pos (by omega)]
    have := comm_l1 n hn x0 h0 p q hp hq (tab i fun i => tab n fun j => p i j - q i j) (by rw [tab_length]; omega) i (by omega) n k 0 (by omega)
    rw [show spec_l08Commutator.l1 (k + n + 1) x0 (mat n p) (mat n q) (tab i fun i => tab n fun j => p i j - q i j) (i : Int) ([] : List Int) 0 = _ from this, wrap_nat _ (by omega), ← tab_succ, ih k (i + 1) (by omega) (by omega)]
def cm (n : Nat) (a b : Nat → Nat → Int) : Nat → Nat → Int := fun i j => ps a b i j n - ps b a i j n
theorem comm_f (k n : Nat) (hn : n ≤ 6) (hk : 400 ≤ k) (a b : Nat → Nat → Int) (ha : small n a) (hb : small n b) : spec_l08Commutator.f k (mat n a) (mat n b) = some (mat n (cm n a b)) := by
  unfold spec_l08Commutator.f
  rw [stimes_f k n hn hk a b ha hb, Option.bind_some, stimes_f k n hn hk b a hb ha, Option.bind_some]
  exact comm_l0 n hn (mat n a) (mat_length _ _) _ _ (ps_mid hn ha hb) (ps_mid hn hb ha) n k 0 (by omega) (by omega)
/-- Tables of n rows each. -/
structure Tabs (n : Nat) (l : List (List (List Int))) (F : Nat → Nat → Nat → Int) : Prop where
  len : l.length ≤ 3
  dim : n ≤ 6
  at_ : ∀ q (h : q < l.length), l[q] = mat n (F q) ∧ small n (F q)
theorem areTabs_tabs {d : Int} {l : List (List (List Int))} (h : areTabs d l = true) : Tabs (dimOf l).toNat l (fun q => ent (l.getD q [])) := by
  unfold areTabs at h
  simp only [Bool.and_eq_true, decide_eq_true_eq, List.all_eq_true] at h
  refine ⟨by omega, by omega, fun q hq => ?_⟩
  have := sq_mat (h.2 l[q] (List.getElem_mem hq))
  rw [show l.getD q [] = l[q] from by simp [List.getD_eq_getElem?_getD, hq]]
  exact this

def tcRes (d : Int) (l : List (List (List Int))) (i k : Int) : List (List Int) × Int :=
  if areTabs d l = true then (if ((decide (0 ≤ i) && decide (i ≤ d - 1)) && (decide (0 ≤ k) && decide (k ≤ d - 1))) = true then (mat (dimOf l).toNat (cm (dimOf l).toNat (ent (l.getD i.toNat [])) (ent (l.getD k.toNat []))), 0) else ([], 2)) else ([], 1)
theorem areTabs_d {d : Int} {l : List (List (List Int))} (h : areTabs d l = true) : 1 ≤ d ∧ d ≤ 3 ∧ (l.length : Int) = d := by
  unfold areTabs at h
  simp only [Bool.and_eq_true, decide_eq_true_eq] at h
  exact ⟨h.1.1.1.1, h.1.1.1.2, h.1.1.2⟩
theorem rdT_int (l : List (List (List Int))) (i : Int) (h0 : 0 ≤ i) (h : i < l.length) : rd_L2 l i = l[i.toNat]'(by omega) := by
  have := rdT_nat l i.toNat (by omega)
  rwa [Int.toNat_of_nonneg h0] at this
theorem within_f (n lo hi : Int) : impl_within.f n lo hi = some (decide (lo ≤ n) && decide (n ≤ hi)) := by
  unfold impl_within.f
  by_cases h : lo ≤ n <;> simp [h]
theorem spec_TableCommutator_f (K : Nat) (d : Int) (l : List (List (List Int))) (i k : Int) (hk : 2000 ≤ K) (hl : l.length ≤ 4000000) : spec_TableCommutator.f K d l i k = some (tcRes d l i k) := by
  unfold spec_TableCommutator.f tcRes
  rw [spec_l08Are_f K d l (by omega) hl, Option.bind_some]
  by_cases h : areTabs d l = true
  · obtain ⟨d1, d3, dl⟩ := areTabs_d h
    have T := areTabs_tabs h
    rw [if_pos h, if_pos h, spec_l01In_f, spec_l01In_f, wrap_of (d - 1) (by omega) (by omega), Option.bind_some]
    by_cases hi : (decide (0 ≤ i) && decide (i ≤ d - 1)) = true
    · rw [if_pos hi, Option.bind_some]
      by_cases hq : (decide (0 ≤ k) && decide (k ≤ d - 1)) = true
      · rw [if_pos hq, if_pos (show ((decide (0 ≤ i) && decide (i ≤ d - 1)) && (decide (0 ≤ k) && decide (k ≤ d - 1))) = true by rw [hi, hq]; rfl)]
        simp only [Bool.and_eq_true, decide_eq_true_eq] at hi hq
        obtain ⟨t1, t2⟩ := T.at_ i.toNat (by omega)
        obtain ⟨t3, t4⟩ := T.at_ k.toNat (by omega)
        rw [if_pos (by omega), if_pos (by omega), if_pos (by omega), if_pos (by omega), rdT_int l i (by omega) (by omega), rdT_int l k (by omega) (by omega), t1, t3, comm_f K _ T.dim (by omega) _ _ t2 t4, Option.bind_some]
      · rw [if_neg hq, if_neg (by simp [hq])]
    · rw [if_neg hi, if_neg (by simp [hi])]
  · rw [if_neg h, if_neg h]
theorem impl_TableCommutator_f (K : Nat) (d : Int) (l : List (List (List Int))) (i k : Int) (hk : 2000 ≤ K) : impl_TableCommutator.f K d l i k = some (tcRes d l i k) := by
  unfold impl_TableCommutator.f tcRes
  rw [impl_AreTables_f d l, Option.bind_some]
  by_cases h : areTabs d l = true
  · obtain ⟨d1, d3, dl⟩ := areTabs_d h
    have T := areTabs_tabs h
    rw [if_pos h, if_pos h, within_f, within_f, wrap_of (d - 1) (by omega) (by omega), Option.bind_some]
    by_cases hi : (decide (0 ≤ i) && decide (i ≤ d - 1)) = true
    · rw [if_pos hi, Option.bind_some]
      by_cases hq : (decide (0 ≤ k) && decide (k ≤ d - 1)) = true
      · rw [if_pos hq, if_pos (show ((decide (0 ≤ i) && decide (i ≤ d - 1)) && (decide (0 ≤ k) && decide (k ≤ d - 1))) = true by rw [hi, hq]; rfl)]
        simp only [Bool.and_eq_true, decide_eq_true_eq] at hi hq
        obtain ⟨t1, t2⟩ := T.at_ i.toNat (by omega)
        obtain ⟨t3, t4⟩ := T.at_ k.toNat (by omega)
        rw [if_pos (by omega), if_pos (by omega), if_pos (by omega), if_pos (by omega), rdT_int l i (by omega) (by omega), rdT_int l k (by omega) (by omega), t1, t3, turn_f K _ T.dim (by omega) _ _ t2 t4, Option.bind_some]
        rfl
      · rw [if_neg hq, if_neg (by simp [hq])]
    · rw [if_neg hi, if_neg (by simp [hi])]
  · rw [if_neg h, if_neg h]
theorem dim_le {d : Int} {l : List (List (List Int))} (h : areTabs d l = true) : (dimOf l).toNat ≤ 6 := (areTabs_tabs h).dim

end Go.Proofs.Ytbpipmkgclkhgaa.Pure
