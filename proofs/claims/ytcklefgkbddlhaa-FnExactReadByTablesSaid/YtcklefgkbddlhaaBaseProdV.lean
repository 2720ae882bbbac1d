/- Plain lemmas: the product of a word's tables, in both programs. -/
import Derived.Test.YtcklefgkbddlhaaPx4
import Derived.Test.YtcklefgkbddlhaaPx14
import Derived.Test.YtcklefgkbddlhaaBaseMatV
namespace Go.Proofs.Ytcklefgkbddlhaa.Pure
open Go.RowKit Go.Proofs.Ytcklefgkbddlhaa.P Go.Proofs.YtcklefgkbddlhaaW.PrintWords Go.Proofs.YtcklefgkbddlhaaW.PrintLast
set_option linter.unusedVariables false
set_option linter.unusedSimpArgs false

theorem not_any_not {α : Type} (p : α → Bool) (l : List α) : (!(l.any fun x => !(p x))) = l.all p := by
  induction l with
  | nil => rfl
  | cons a l ih => simp only [List.any_cons, List.all_cons, Bool.not_or, Bool.not_not, ih]
def okW (d : Nat) (s : ByteArray) : Prop := ∀ i : Nat, i < s.size → 48 ≤ bt s i ∧ bt s i < 48 + (d : Int)
def eye (i j : Nat) : Int := if i = j then 1 else 0
theorem eye_big (n : Nat) : big n eye := fun i j _ _ => by unfold eye; split <;> omega
theorem sunit_l0 (n : Nat) (hn : n ≤ 6) : ∀ d k i, i + d = n → d < k →
    spec_l08Unit.l0 k (n : Int) (tab i fun p => tab n (eye p)) (i : Int) = some (mat n eye) := by
  intro d
  induction d with
  | zero =>
    intro k i h hk
    obtain ⟨k, rfl⟩ : ∃ m, k = m + 1 := ⟨k - 1, by omega⟩
    obtain rfl : i = n := by omega
    rw [spec_l08Unit.l0, if_neg (by omega)]
    rfl
  | succ d ih =>
    intro k i h hk
    obtain ⟨k, rfl⟩ : ∃ m, k = m + 1 := ⟨k - 1, by omega⟩
    have e : (tab n fun j => if j = i then (1 : Int) else 0) = tab n (eye i) := tab_congr fun q hq => by
      unfold eye
      by_cases e : q = i
      · rw [if_pos e, if_pos e.symm]
      · rw [if_neg e, if_neg (Ne.symm e)]
    rw [spec_l08Unit.l0, if_pos (by omega), if_pos (by omega), if_pos (by omega), Option.bind_some, Int.toNat_natCast, if_pos (by omega), if_pos (by rw [List.length_replicate]; omega), if_pos (by rw [tab_length]; omega), wrap_nat _ (by omega), tab_rep, Int.toNat_natCast, tab_set, e, ← tab_succ, ih k (i + 1) (by omega) (by omega)]
theorem sunit_f (k n : Nat) (hn : n ≤ 6) (hk : 7 ≤ k) : spec_l08Unit.f k (n : Int) = some (mat n eye) := sunit_l0 n hn n k 0 (by omega) (by omega)
theorem diag_mat (n : Nat) : ∀ i, i ≤ n → impl_product.diag i (mat n fun _ _ => 0) = mat n fun p q => if p < i then eye p q else 0 := by
  intro i
  induction i with
  | zero => intro _; rw [impl_product.diag]; unfold mat; refine tab_congr fun p hp => tab_congr fun q hq => ?_; dsimp only; rw [if_neg (by omega)]
  | succ i ih =>
    intro h
    have hg : (mat n fun p q => if p < i then eye p q else 0).getD i [] = tab n fun _ => 0 := by
      rw [List.getD_eq_getElem?_getD, List.getElem?_eq_getElem (by unfold mat; rw [tab_length]; omega), Option.getD_some]
      unfold mat
      rw [tab_get]
      refine tab_congr fun q hq => ?_
      dsimp only
      rw [if_neg (by omega)]
    rw [impl_product.diag, ih (by omega), hg, tab_set]
    unfold mat
    rw [tab_set]
    refine tab_congr fun p hp => ?_
    by_cases e : p = i
    · rw [if_pos e]
      refine tab_congr fun q hq => ?_
      dsimp only
      by_cases e2 : q = i
      · rw [if_pos e2, if_pos (show p < i + 1 by omega), e, e2]; unfold eye; rw [if_pos rfl]
      · rw [if_neg e2, if_pos (show p < i + 1 by omega), e]; unfold eye; rw [if_neg (Ne.symm e2)]
    · rw [if_neg e]
      refine tab_congr fun q hq => ?_
      dsimp only
      by_cases e2 : p < i
      · rw [if_pos e2, if_pos (by omega)]
      · rw [if_neg e2, if_neg (by omega)]
theorem over_mat (n : Nat) (f : Nat → Nat → Int) : impl_product.over (mat n f) = !(okM n f) := by
  have h : ∀ t : List (List Int), impl_product.over t = !(t.all fun x => x.all okV) := by
    intro t
    unfold impl_product.over
    have e : (fun x : List Int => !(!(x.any fun n => !(Hand.upToB n 1000000000)))) = fun x => !(x.all okV) := by
      funext x
      rw [not_any_not]
      congr 2
      funext q
      unfold Hand.upToB okV
      rw [wrap_of (-1000000000) (by omega) (by omega)]
    rw [e, ← not_any_not, Bool.not_not]
  rw [h]
  unfold mat okM
  rw [all_tab, allF_range]
  congr 2
  funext p
  rw [all_tab, allF_range]
/-- A word's letter, as a place among the tables. -/
def ltr (w : ByteArray) (i : Nat) : Nat := (((bt w i) - 48) % 256).toNat
def pm (n : Nat) (a b : Nat → Nat → Int) : Nat → Nat → Int := fun i j => ps a b i j n
/-- The product from letter i on. -/
def prodR (n : Nat) (F : Nat → Nat → Nat → Int) (w : ByteArray) : Nat → Nat → (Nat → Nat → Int) → List (List Int) × Bool
  | 0, _, f => (mat n f, true)
  | e + 1, i, f => if okM n (pm n f (F (ltr w i))) = true then prodR n F w e (i + 1) (pm n f (F (ltr w i))) else (([] : List (List Int)), false)
theorem okM_big {n : Nat} {f : Nat → Nat → Int} (h : okM n f = true) : big n f := by
  intro i j hi hj
  unfold okM at h
  rw [allF_iff] at h
  have := h i (Nat.zero_le _) (by omega)
  rw [allF_iff] at this
  have := this j (Nat.zero_le _) (by omega)
  unfold okV at this
  simp only [Bool.and_eq_true, decide_eq_true_eq] at this
  exact this
theorem prodR_form (n : Nat) (F : Nat → Nat → Nat → Int) (w : ByteArray) : ∀ e i f, (∃ g, prodR n F w e i f = (mat n g, true)) ∨ prodR n F w e i f = (([] : List (List Int)), false) := by
  intro e
  induction e with
  | zero => intro i f; exact .inl ⟨f, rfl⟩
  | succ e ih =>
    intro i f
    rw [prodR]
    split
    · exact ih _ _
    · exact .inr rfl
theorem ltr_lt {d : Nat} (hd : d ≤ 3) {w : ByteArray} (h : okW d w) (i : Nat) (hi : i < w.size) : ltr w i < d ∧ ((bt w i) - 48) % 256 = (ltr w i : Int) := by
  have := h i hi
  unfold ltr
  omega
theorem sprod_l0 {n : Nat} {l : List (List (List Int))} {F : Nat → Nat → Nat → Int} (T : Tabs n l F) (w : ByteArray) (hw : okW l.length w) (hs : w.size ≤ 1000000) : ∀ e k i f, i + e = w.size → big n f → 500 + e ≤ k →
    spec_l08Product.l0 k l w (mat n f) (i : Int) = some (prodR n F w e i f) := by
  intro e
  have hl := T.len
  induction e with
  | zero =>
    intro k i f h hf hk
    obtain ⟨k, rfl⟩ : ∃ m, k = m + 1 := ⟨k - 1, by omega⟩
    rw [spec_l08Product.l0, if_neg (by omega), prodR]
  | succ e ih =>
    intro k i f h hf hk
    obtain ⟨k, rfl⟩ : ∃ m, k = m + 1 := ⟨k - 1, by omega⟩
    obtain ⟨h1, h2⟩ := ltr_lt hl hw i (by omega)
    obtain ⟨t1, t2⟩ := T.at_ (ltr w i) h1
    rw [spec_l08Product.l0, if_pos (by omega), if_pos (by omega), h2, if_pos (by omega), if_pos (by omega), rdT_nat l _ h1, t1, stimesB_f k n T.dim (by omega) f _ hf t2, Option.bind_some, prodR]
    by_cases ho : okM n (pm n f (F (ltr w i))) = true
    · rw [if_pos ho, if_pos (show okM n (fun p j => ps f (F (ltr w i)) p j n) = true from ho), if_pos rfl, wrap_nat _ (by omega)]
      exact ih k (i + 1) _ (by omega) (okM_big ho) (by omega)
    · rw [if_neg ho, if_neg (show ¬ okM n (fun p j => ps f (F (ltr w i)) p j n) = true from ho), if_neg (by simp)]
theorem iprod_l0 {n : Nat} {l : List (List (List Int))} {F : Nat → Nat → Nat → Int} (T : Tabs n l F) (w : ByteArray) (hw : okW l.length w) (hs : w.size ≤ 1000000) : ∀ e k i f, i + e = w.size → big n f → 500 + e ≤ k →
    impl_product.l0 k l w (mat n f) (w.size : Int) (i : Int) = some (prodR n F w e i f) := by
  intro e
  have hl := T.len
  induction e with
  | zero =>
    intro k i f h hf hk
    obtain ⟨k, rfl⟩ : ∃ m, k = m + 1 := ⟨k - 1, by omega⟩
    rw [impl_product.l0, if_neg (by omega), prodR]
  | succ e ih =>
    intro k i f h hf hk
    obtain ⟨k, rfl⟩ : ∃ m, k = m + 1 := ⟨k - 1, by omega⟩
    obtain ⟨h1, h2⟩ := ltr_lt hl hw i (by omega)
    obtain ⟨t1, t2⟩ := T.at_ (ltr w i) h1
    rw [impl_product.l0, if_pos (by omega), if_pos (by omega), if_pos (by omega), h2, if_pos (by omega), if_pos (by omega), rdT_nat l _ h1, t1, timesB_f k n T.dim (by omega) f _ hf t2, Option.bind_some, over_mat, prodR]
    by_cases ho : okM n (pm n f (F (ltr w i))) = true
    · rw [if_pos ho, show okM n (fun p j => ps f (F (ltr w i)) p j n) = true from ho, if_neg (by simp), wrap_nat _ (by omega)]
      exact ih k (i + 1) _ (by omega) (okM_big ho) (by omega)
    · rw [if_neg ho, show okM n (fun p j => ps f (F (ltr w i)) p j n) = false from Bool.eq_false_iff.mpr ho, if_pos (by simp)]
theorem first_len {n : Nat} {l : List (List (List Int))} {F : Nat → Nat → Nat → Int} (T : Tabs n l F) (h0 : 0 < l.length) : rd_L7 l 0 = mat n (F 0) := by
  have := rdT_nat l 0 h0
  rw [show ((0 : Nat) : Int) = 0 from rfl] at this
  rw [this]
  exact (T.at_ 0 h0).1
theorem spec_product_f {n : Nat} {l : List (List (List Int))} {F : Nat → Nat → Nat → Int} (T : Tabs n l F) (h0 : 0 < l.length) (w : ByteArray) (hw : okW l.length w) (hs : w.size ≤ 1000000) (k : Nat) (hk : 500 + w.size ≤ k) : spec_l08Product.f k l w = some (prodR n F w w.size 0 eye) := by
  unfold spec_l08Product.f
  rw [if_pos (by omega), first_len T h0, mat_length, sunit_f k n T.dim (by omega), Option.bind_some]
  exact sprod_l0 T w hw hs w.size k 0 eye (by omega) (eye_big n) hk
theorem impl_product_f {n : Nat} {l : List (List (List Int))} {F : Nat → Nat → Nat → Int} (T : Tabs n l F) (h0 : 0 < l.length) (w : ByteArray) (hw : okW l.length w) (hs : w.size ≤ 1000000) (k : Nat) (hk : 500 + w.size ≤ k) : impl_product.f k l w = some (prodR n F w w.size 0 eye) := by
  have hd : impl_product.diag (mat n fun _ _ => 0).length (mat n fun _ _ => 0) = mat n eye := by
    rw [mat_length, diag_mat n n (Nat.le_refl _)]
    unfold mat
    refine tab_congr fun p hp => tab_congr fun q hq => ?_
    dsimp only
    rw [if_pos hp]
  have hc : ∀ j, j < (mat n fun _ _ => (0 : Int)).length → (mat n fun _ _ => (0 : Int)).length ≤ ((mat n fun _ _ => (0 : Int)).getD j []).length := by
    intro j hj
    rw [mat_length] at hj ⊢
    rw [List.getD_eq_getElem?_getD, List.getElem?_eq_getElem (by rw [mat_length]; exact hj), Option.getD_some]
    unfold mat
    rw [tab_get, tab_length]
    exact Nat.le_refl _
  unfold impl_product.f
  rw [if_pos (by omega), first_len T h0, mat_length, square_f k n T.dim (by omega), Option.bind_some, if_pos hc, hd]
  exact iprod_l0 T w hw hs w.size k 0 eye (by omega) (eye_big n) hk

end Go.Proofs.Ytcklefgkbddlhaa.Pure
