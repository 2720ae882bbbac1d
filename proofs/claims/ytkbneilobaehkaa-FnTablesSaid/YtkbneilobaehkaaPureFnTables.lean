/- FnTables: products of words are those of their parts, tables of words read them, and both programs agree on products, vanishing, commutators and turns. -/
import Derived.Test.YtkbneilobaehkaaFtDef
import Derived.Test.YtkbneilobaehkaaFtD
import Derived.Test.YtkbneilobaehkaaFtM
namespace Go.Proofs.Ytkbneilobaehkaa.Pure
open Go.RowKit Go.Proofs.Ytkbneilobaehkaa.P Go.Proofs.YtkbneilobaehkaaW.PrintWords Go.Proofs.YtkbneilobaehkaaW.PrintLast
set_option linter.unusedVariables false
set_option linter.unusedSimpArgs false

theorem likeInts_l0 (l : List Int) (hl : l.length ≤ 1000) : ∀ d k i, i + d = l.length → d < k → laws_likeInts.l0 k l l (i : Int) = some true := by
  intro d
  induction d with
  | zero =>
    intro k i h hk
    obtain ⟨k, rfl⟩ : ∃ m, k = m + 1 := ⟨k - 1, by omega⟩
    rw [laws_likeInts.l0, if_neg (by omega)]
  | succ d ih =>
    intro k i h hk
    obtain ⟨k, rfl⟩ : ∃ m, k = m + 1 := ⟨k - 1, by omega⟩
    rw [laws_likeInts.l0, if_pos (by omega), if_pos (by omega), if_pos (by omega), if_pos rfl, wrap_nat _ (by omega), ih k (i + 1) (by omega) (by omega)]
theorem likeInts_f (k : Nat) (l : List Int) (hl : l.length ≤ 1000) (hk : l.length < k) : laws_likeInts.f k l l = some true := by
  unfold laws_likeInts.f
  rw [if_pos rfl]
  exact likeInts_l0 l hl l.length k 0 (by omega) hk
/-- Rows that are not too long, and not too many. -/
def Few (l : List (List Int)) : Prop := l.length ≤ 1000 ∧ ∀ r ∈ l, r.length ≤ 1000
theorem lists9_l0 (l : List (List Int)) (hl : Few l) : ∀ d k i, i + d = l.length → d + 1001 < k → laws_lists9.l0 k l l (i : Int) = some true := by
  intro d
  have hl1 := hl.1
  induction d with
  | zero =>
    intro k i h hk
    obtain ⟨k, rfl⟩ : ∃ m, k = m + 1 := ⟨k - 1, by omega⟩
    rw [laws_lists9.l0, if_neg (by omega)]
  | succ d ih =>
    intro k i h hk
    obtain ⟨k, rfl⟩ : ∃ m, k = m + 1 := ⟨k - 1, by omega⟩
    have hr := hl.2 l[i] (List.getElem_mem (by omega))
    rw [laws_lists9.l0, if_pos (by omega), if_pos (by omega), if_pos (by omega), rdR_nat l i (by omega), likeInts_f k _ hr (by omega), Option.bind_some, if_pos rfl, wrap_nat _ (by omega), ih k (i + 1) (by omega) (by omega)]
theorem lists9_f (k : Nat) (l : List (List Int)) (hl : Few l) (hk : 3000 ≤ k) : laws_lists9.f k l l = some true := by
  have hl1 := hl.1
  unfold laws_lists9.f
  rw [if_pos rfl]
  exact lists9_l0 l hl l.length k 0 (by omega) (by omega)
theorem few_nil : Few [] := ⟨by simp, by simp⟩
theorem few_mat (n : Nat) (hn : n ≤ 6) (f : Nat → Nat → Int) : Few (mat n f) := by
  refine ⟨by rw [mat_length]; omega, fun r hr => ?_⟩
  unfold mat tab at hr
  obtain ⟨p, hp, rfl⟩ := List.mem_map.1 hr
  simp; omega
theorem few_po (d : Int) (l : List (List (List Int))) (s : ByteArray) : Few (poRes d l s).1 := by
  rcases poRes_small d l s with h | ⟨n, f, hn, h⟩
  · rw [h]; exact few_nil
  · rw [h]; exact few_mat n hn f
theorem few_tc (d : Int) (l : List (List (List Int))) (i k : Int) : Few (tcRes d l i k).1 := by
  unfold tcRes
  split
  · rename_i h
    split
    · exact few_mat _ (dim_le h) _
    · exact few_nil
  · exact few_nil
theorem few_to (d : Int) (s : ByteArray) : (toRes d s).1.length ≤ 3 ∧ ∀ m ∈ (toRes d s).1, Few m := by
  by_cases h : (toRes d s).2 = 0
  · obtain ⟨d1, d3, hw, h5, e⟩ := toRes_zero h
    rw [e, tab_length]
    refine ⟨by omega, fun m hm => ?_⟩
    unfold tab at hm
    obtain ⟨a, ha, rfl⟩ := List.mem_map.1 hm
    exact few_mat _ (by omega) _
  · have e : (toRes d s).1 = [] := by
      unfold toRes at h ⊢
      split at h
      · rename_i h1
        rw [if_pos h1]
        split at h
        · rename_i h2
          rw [if_pos h2]
          split at h
          · rename_i h3; rw [if_pos h3]
          · exact absurd rfl h
        · rename_i h2; rw [if_neg h2]
      · rename_i h1; rw [if_neg h1]
    rw [e]; exact ⟨by simp, by simp⟩
theorem mul_bb {x y : Int} (hx : -1000000000 ≤ x ∧ x ≤ 1000000000) (hy : -1000000000 ≤ y ∧ y ≤ 1000000000) : -1000000000000000000 ≤ x * y ∧ x * y ≤ 1000000000000000000 := by
  have h1 : (x * y).natAbs ≤ 1000000000000000000 := by
    rw [Int.natAbs_mul]
    exact Nat.le_trans (Nat.mul_le_mul (show x.natAbs ≤ 1000000000 by omega) (show y.natAbs ≤ 1000000000 by omega)) (by decide)
  omega
theorem ps_bb {n : Nat} {a b : Nat → Nat → Int} (ha : big n a) (hb : big n b) (i j : Nat) (hi : i < n) (hj : j < n) : ∀ t, t ≤ n → -(1000000000000000000 * (t : Int)) ≤ ps a b i j t ∧ ps a b i j t ≤ 1000000000000000000 * (t : Int) := by
  intro t
  induction t with
  | zero => intro _; simp [ps]
  | succ t ih =>
    intro h
    have := ih (by omega)
    have := mul_bb (ha i t hi (by omega)) (hb t j (by omega) hj)
    simp only [ps]
    omega
section
variable (x3 : Int) (x4 : List (List (List Int))) (x5 : ByteArray) (n : Nat) (hn : n ≤ 6) (f g p : Nat → Nat → Int) (hf : big n f) (hg : big n g) (hp : ∀ i j, i < n → j < n → ps f g i j n = p i j) (x40 : Int)
include hn hf hg hp
theorem ft_l4 (r c : Nat) (hr : r < n) (hc : c < n) (M : Nat) (hT : ∀ k, M ≤ k → laws_FnTables.l3 k x3 x4 x5 (mat n p) x40 (mat n f) (mat n g) (r : Int) (wrap64 ((c : Int) + 1)) = some true) : ∀ e k m, m + e = n → M + e + 1 ≤ k →
    laws_FnTables.l4 k x3 x4 x5 (mat n p) x40 (mat n f) (mat n g) (r : Int) (c : Int) (ps f g r c m) (m : Int) = some true := by
  intro e
  have hl : ∀ q, (mat n q).length = n := fun q => mat_length n q
  induction e with
  | zero =>
    intro k m h hk
    obtain ⟨k, rfl⟩ : ∃ q, k = q + 1 := ⟨k - 1, by omega⟩
    obtain rfl : m = n := by omega
    rw [laws_FnTables.l4, if_neg (by rw [hl]; omega), if_pos (by omega), if_pos (by rw [hl]; omega), if_pos (by omega), rdR_mat m p r hr, if_pos (by rw [tab_length]; omega), rd_tab m _ c hc, if_pos (hp r c hr hc)]
    exact hT k (by omega)
  | succ e ih =>
    intro k m h hk
    obtain ⟨k, rfl⟩ : ∃ q, k = q + 1 := ⟨k - 1, by omega⟩
    have h1 := mul_bb (hf r m hr (by omega)) (hg m c (by omega) hc)
    have h2 := ps_bb hf hg r c hr hc (m + 1) (by omega)
    rw [laws_FnTables.l4, if_pos (by rw [hl]; omega), if_pos (by omega), if_pos (by rw [hl]; omega), if_pos (by omega), rdR_mat n f r hr, if_pos (by rw [tab_length]; omega), if_pos (by rw [hl]; omega), if_pos (by omega), rdR_mat n g m (by omega), if_pos (by rw [tab_length]; omega), rd_tab n _ m (by omega), rd_tab n _ c hc, wrap_of (f r m * g m c) (by omega) (by omega), wrap_nat _ (by omega)]
    have hs : ps f g r c m + f r m * g m c = ps f g r c (m + 1) := rfl
    rw [hs, wrap_of _ (by omega) (by omega)]
    exact ih k (m + 1) (by omega) (by omega)
theorem ft_l3 (r : Nat) (hr : r < n) (M : Nat) (hT : ∀ k, M ≤ k → laws_FnTables.l2 k x3 x4 x5 (mat n p) x40 (mat n f) (mat n g) (wrap64 ((r : Int) + 1)) = some true) : ∀ e k c, c + e = n → M + e * 10 + 1 ≤ k →
    laws_FnTables.l3 k x3 x4 x5 (mat n p) x40 (mat n f) (mat n g) (r : Int) (c : Int) = some true := by
  intro e
  induction e with
  | zero =>
    intro k c h hk
    obtain ⟨k, rfl⟩ : ∃ q, k = q + 1 := ⟨k - 1, by omega⟩
    rw [laws_FnTables.l3, if_neg (by rw [mat_length]; omega)]
    exact hT k (by omega)
  | succ e ih =>
    intro k c h hk
    obtain ⟨k, rfl⟩ : ∃ q, k = q + 1 := ⟨k - 1, by omega⟩
    rw [laws_FnTables.l3, if_pos (by rw [mat_length]; omega)]
    exact ft_l4 x3 x4 x5 n hn f g p hf hg hp x40 r c hr (by omega) (M + e * 10 + 1) (fun k hk => by rw [wrap_nat _ (by omega)]; exact ih k (c + 1) (by omega) hk) n k 0 (by omega) (by omega)
theorem ft_l2 (M : Nat) (hT : ∀ k, M ≤ k → laws_FnTables.l1 k x3 x4 x5 (mat n p) (wrap64 (x40 + 1)) = some true) : ∀ e k r, r + e = n → M + e * 100 + 1 ≤ k →
    laws_FnTables.l2 k x3 x4 x5 (mat n p) x40 (mat n f) (mat n g) (r : Int) = some true := by
  intro e
  induction e with
  | zero =>
    intro k r h hk
    obtain ⟨k, rfl⟩ : ∃ q, k = q + 1 := ⟨k - 1, by omega⟩
    rw [laws_FnTables.l2, if_neg (by rw [mat_length]; omega)]
    exact hT k (by omega)
  | succ e ih =>
    intro k r h hk
    obtain ⟨k, rfl⟩ : ∃ q, k = q + 1 := ⟨k - 1, by omega⟩
    rw [laws_FnTables.l2, if_pos (by rw [mat_length]; omega)]
    exact ft_l3 x3 x4 x5 n hn f g p hf hg hp x40 r (by omega) (M + e * 100 + 1) (fun k hk => by rw [wrap_nat _ (by omega)]; exact ih k (r + 1) (by omega) hk) n k 0 (by omega) (by omega)
end
set_option maxRecDepth 100000 in
theorem ft_l1 {d : Int} {l : List (List (List Int))} {w : ByteArray} (h : (poRes d l w).2 = 0) (M : Nat) (hM : 2000000 ≤ M) : ∀ e k a, a + e = w.size + 1 → M + e * 1000 + 1 ≤ k → laws_FnTables.l1 k d l w (poRes d l w).1 (a : Int) = some true := by
  obtain ⟨h1, h2, h3, h4, h5⟩ := poRes_zero h
  have T := areTabs_tabs h1
  intro e
  induction e with
  | zero =>
    intro k a ha hk
    obtain ⟨k, rfl⟩ : ∃ q, k = q + 1 := ⟨k - 1, by omega⟩
    rw [laws_FnTables.l1, if_neg (by omega)]
  | succ e ih =>
    intro k a ha hk
    obtain ⟨k, rfl⟩ : ∃ q, k = q + 1 := ⟨k - 1, by omega⟩
    have hk2 : M + e * 1000 + 1 ≤ k := by omega
    have hs1 := size_extract' w 0 a (by omega)
    have hs2 := size_extract' w a w.size (Nat.le_refl _)
    obtain ⟨hl0, hl1, hl2⟩ := parts_left h a (by omega)
    rw [laws_FnTables.l1, if_pos (by omega), if_pos (by omega), Int.toNat_natCast, impl_ProductOfWord_f k d l _ (by omega) (by omega), Option.bind_some, impl_ProductOfWord_f k d l _ (by omega) (by omega), Option.bind_some, if_pos hl0]
    have hT : ∀ k, M + e * 1000 + 1 ≤ k → laws_FnTables.l1 k d l w (poRes d l w).1 (wrap64 ((a : Int) + 1)) = some true := fun k hk => by rw [wrap_nat _ (by omega)]; exact ih k (a + 1) (by omega) hk
    by_cases hr : (poRes d l (w.extract a w.size)).2 = 0
    · obtain ⟨hr1, hr2⟩ := parts_right a (by omega) hr
      obtain ⟨hp1, hp2, hp3⟩ := parts_left h w.size (Nat.le_refl _)
      have hwm := prodR_true _ _ w w.size 0 eye (eye_big _) h4
      have hP : (poRes d l w).1 = mat (dimOf l).toNat (rawP (dimOf l).toNat (fun q => ent (l.getD q [])) w w.size 0 eye) := by rw [h5, hwm.1]
      rw [if_pos hr, hl1, hr1]
      rw [hP] at hT ⊢
      exact ft_l2 d l w (dimOf l).toNat T.dim _ _ _ hl2 hr2 (fun i j hi hj => parts_mul _ _ w a (by omega) i j hi hj) (a : Int) (M + e * 1000 + 1) hT (dimOf l).toNat k 0 (by omega) (by have := T.dim; omega)
    · rw [if_neg hr]; exact hT k hk2
theorem ft_j7 (d : Int) (l : List (List (List Int))) (w : ByteArray) (hw : w.size ≤ 6) (k : Nat) (hk : 2100000 ≤ k) : laws_FnTables.j7 k d l w (poRes d l w).1 (poRes d l w).2 = some true := by
  obtain ⟨k, rfl⟩ : ∃ q, k = q + 1 := ⟨k - 1, by omega⟩
  rw [laws_FnTables.j7]
  by_cases h : (poRes d l w).2 = 0
  · rw [if_pos h]; exact ft_l1 h 2000000 (Nat.le_refl _) (w.size + 1) k 0 (by omega) (by omega)
  · rw [if_neg h, poRes_none h]; simp
theorem ft_j6 (d : Int) (l : List (List (List Int))) (w : ByteArray) (hw : w.size ≤ 6) (n : Int) (s : ByteArray) (hs : s.size ≤ 6) (k : Nat) (hk : 2200000 ≤ k) : laws_FnTables.j6 k d l w (poRes d l w).1 (poRes d l w).2 n s (toRes n s).1 (toRes n s).2 false = some true := by
  obtain ⟨k, rfl⟩ : ∃ q, k = q + 1 := ⟨k - 1, by omega⟩
  rw [laws_FnTables.j6, if_neg (by simp)]
  have h7 := ft_j7 d l w hw k (by omega)
  by_cases h : (toRes n s).2 = 0
  · obtain ⟨hA, g, hg, h1⟩ := reads_it h
    rw [if_pos h, impl_ProductOfWord_f k _ _ _ (by omega) (by omega), Option.bind_some, hg]
    have hl : (mat (s.size + 1) g).length = s.size + 1 := mat_length _ _
    have hr : rd_L3 (mat (s.size + 1) g) 0 = tab (s.size + 1) (g 0) := rdR_mat (s.size + 1) g 0 (by omega)
    have ht : rd (tab (s.size + 1) (g 0)) (s.size : Int) = g 0 s.size := rd_tab (s.size + 1) (g 0) s.size (by omega)
    dsimp only
    rw [if_pos rfl, if_pos (by omega), if_pos (by omega), hr, if_pos (by rw [tab_length]; omega), ht, if_pos h1, impl_AreTables_f, Option.bind_some, if_pos hA]
    exact h7
  · rw [if_neg h]; exact h7
theorem ft_j5 (d : Int) (l : List (List (List Int))) (w : ByteArray) (hw : w.size ≤ 6) (n : Int) (s : ByteArray) (hs : s.size ≤ 6) (k : Nat) (hk : 2300000 ≤ k) : laws_FnTables.j5 k d l w (poRes d l w).1 (poRes d l w).2 n s (toRes n s).1 (toRes n s).2 false = some true := by
  obtain ⟨k, rfl⟩ : ∃ q, k = q + 1 := ⟨k - 1, by omega⟩
  have hf : Few [[0, 1], [0, 0]] := ⟨by simp, by intro r hr; simp at hr; rcases hr with rfl | rfl <;> simp⟩
  have hg : Few [[0, 0], [1, 0]] := ⟨by simp, by intro r hr; simp at hr; rcases hr with rfl | rfl <;> simp⟩
  have e0 : rd_L4 ([[[0, 1], [0, 0]], [[0, 0], [1, 0]]] : List (List (List Int))) 0 = [[0, 1], [0, 0]] := rfl
  have e1 : rd_L4 ([[[0, 1], [0, 0]], [[0, 0], [1, 0]]] : List (List (List Int))) 1 = [[0, 0], [1, 0]] := rfl
  rw [laws_FnTables.j5, if_neg (by simp)]
  unfold impl_TurnTables.f spec_TurnTables.f
  rw [Option.bind_some, Option.bind_some, if_pos (by simp), if_pos (by simp), if_pos (by simp), e0, lists9_f k _ hf (by omega), Option.bind_some, if_pos rfl, if_pos (by simp), if_pos (by simp), e1, lists9_f k _ hg (by omega), Option.bind_some]
  exact ft_j6 d l w hw n s hs k (by omega)
theorem ft_l0 {z : List Int} (hz : Src z) (d : Int) (l : List (List (List Int))) (w : ByteArray) (hw : w.size ≤ 6) (n : Int) (s : ByteArray) (hs : s.size ≤ 6) : ∀ e k i, i + e = (toRes n s).1.length → 2400000 + e ≤ k → laws_FnTables.l0 k z d l w (poRes d l w).1 (poRes d l w).2 n s (toRes n s).1 (toRes n s).2 (toRes n s).1 (i : Int) = some true := by
  intro e
  have hF := few_to n s
  have hl := hF.1
  induction e with
  | zero =>
    intro k i h hk
    obtain ⟨k, rfl⟩ : ∃ q, k = q + 1 := ⟨k - 1, by omega⟩
    obtain ⟨q, m, a, b, hd, hm⟩ := drawC_ok hz k (by omega)
    rw [laws_FnTables.l0, if_neg (by omega), hd, Option.bind_some]
    dsimp only
    rw [impl_TableCommutator_f k q m a b (by omega), Option.bind_some, spec_TableCommutator_f k q m a b (by omega) (by omega), Option.bind_some, if_pos rfl, lists9_f k _ (few_tc q m a b) (by omega), Option.bind_some]
    exact ft_j5 d l w hw n s hs k (by omega)
  | succ e ih =>
    intro k i h hk
    obtain ⟨k, rfl⟩ : ∃ q, k = q + 1 := ⟨k - 1, by omega⟩
    rw [laws_FnTables.l0, if_pos (by omega), if_pos (by omega), if_pos (by omega), rdT_nat _ i (by omega), lists9_f k _ (hF.2 _ (List.getElem_mem _)) (by omega), Option.bind_some, if_pos rfl, wrap_nat _ (by omega)]
    exact ih k (i + 1) (by omega) (by omega)
theorem FnTables : laws_FnTables.Pure := by
  intro z hz1 hz2 hz3
  refine ⟨3000000, ?_⟩
  unfold laws_FnTables.f laws_big.f
  rw [Option.bind_some]
  by_cases hb : (z.length : Int) > 4096
  · rw [if_pos (by simp [hb])]
  · have hz : Src z := ⟨fun v hv => by
      have := hz3 v hv
      simp [Lit.wf, IntKind.min, IntKind.max, IntKind.signed, IntKind.bits] at this
      omega, by omega⟩
    rw [if_neg (by simp [hb])]
    obtain ⟨d, l, w, hd, hl, hw⟩ := drawP_ok hz 3000000 (by omega)
    rw [hd, Option.bind_some]
    dsimp only
    rw [impl_ProductOfWord_f _ d l w (by omega) (by omega), Option.bind_some, spec_ProductOfWord_f _ d l w (by omega) (by omega) (by omega), Option.bind_some, if_pos rfl, lists9_f _ _ (few_po d l w) (by omega), Option.bind_some, if_pos rfl, impl_AreTables_f, Option.bind_some]
    unfold spec_AreTables.f
    rw [spec_l08Are_f _ d l (by omega) (by omega), Option.bind_some, Option.bind_some, bne_self_eq_false]
    obtain ⟨K, hK⟩ : ∃ K, 3000000 = K + 1 := ⟨2999999, rfl⟩
    rw [hK, laws_FnTables.j0, if_neg (by simp)]
    obtain ⟨q, m, b, hq, hm⟩ := drawV_ok hz K (by omega)
    rw [hq, Option.bind_some]
    dsimp only
    rw [impl_VanishAt_f K q m b (by omega), Option.bind_some, spec_VanishAt_f K q m b (by omega) (by omega), Option.bind_some, if_pos rfl, bne_self_eq_false]
    obtain ⟨K1, rfl⟩ : ∃ K1, K = K1 + 1 := ⟨K - 1, by omega⟩
    rw [laws_FnTables.j1, if_neg (by simp), impl_DoTablesCommute_f K1 d l (by omega), Option.bind_some, spec_DoTablesCommute_f K1 d l (by omega) (by omega), Option.bind_some, if_pos rfl, bne_self_eq_false]
    obtain ⟨K2, rfl⟩ : ∃ K2, K1 = K2 + 1 := ⟨K1 - 1, by omega⟩
    rw [laws_FnTables.j2, if_neg (by simp)]
    obtain ⟨n, s, hs, hs6⟩ := drawT_ok hz K2 (by omega)
    rw [hs, Option.bind_some]
    dsimp only
    rw [impl_TablesOfWord_f K2 n s (by omega) (by omega), Option.bind_some, spec_TablesOfWord_f K2 n s (by omega) (by omega), Option.bind_some, if_pos rfl, bne_self_eq_false]
    obtain ⟨K3, rfl⟩ : ∃ K3, K2 = K3 + 1 := ⟨K2 - 1, by omega⟩
    rw [laws_FnTables.j3, if_neg (by simp)]
    exact ft_l0 hz d l w hw n s hs6 (toRes n s).1.length K3 0 (by omega) (by have := (few_to n s).1; omega)

end Go.Proofs.Ytkbneilobaehkaa.Pure
