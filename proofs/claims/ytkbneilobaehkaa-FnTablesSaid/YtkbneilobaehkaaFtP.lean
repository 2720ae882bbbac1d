/- Plain lemmas: the product of a word, in both programs, with what they ask first. -/
import Derived.Test.YtkbneilobaehkaaPx11
import Derived.Test.YtkbneilobaehkaaPx7
import Derived.Test.YtkbneilobaehkaaPx9
import Derived.Test.YtkbneilobaehkaaPx4
import Derived.Test.YtkbneilobaehkaaFtA
namespace Go.Proofs.Ytkbneilobaehkaa.Pure
open Go.RowKit Go.Proofs.Ytkbneilobaehkaa.P Go.Proofs.YtkbneilobaehkaaW.PrintWords Go.Proofs.YtkbneilobaehkaaW.PrintLast
set_option linter.unusedVariables false
set_option linter.unusedSimpArgs false

def okW (d : Nat) (s : ByteArray) : Prop := ∀ i : Nat, i < s.size → 48 ≤ bt s i ∧ bt s i < 48 + (d : Int)

def eye (i j : Nat) : Int := if i = j then 1 else 0
theorem eye_big (n : Nat) : big n eye := fun i j _ _ => by unfold eye; split <;> omega
theorem sunit_l0 (n : Nat) (hn : n ≤ 6) : ∀ d k i, i + d = n → d < k →
 spec_l08Unit.l0 k (n : Int) (tab i fun p => tab n (eye p)) (i : Int) = some (mat n eye) := by
 intro d
 induction d with
 | zero =>
  intro k i h hk
  obtain ⟨k, rfl⟩ : ∃ m, k = m + 1 := ⟨k - 1, by omega⟩
  obtain rfl : i = n := by omega
  rw [spec_l08Unit.l0, if_neg (by omega)]
  rfl
 | succ d ih =>
  intro k i h hk
  obtain ⟨k, rfl⟩ : ∃ m, k = m + 1 := ⟨k - 1, by omega⟩
  have e : (tab n fun j => if j = i then (1 : Int) else 0) = tab n (eye i) := tab_congr fun q hq => by
   unfold eye
   by_cases e : q = i
   ·rw [if_pos e, if_pos e.symm]
   ·rw [if_neg e, if_neg (Ne.symm e)]
  rw [spec_l08Unit.l0, if_pos (by omega), if_pos (by omega), if_pos (by omega), Option.bind_some, Int.toNat_natCast, if_pos (by omega), if_pos (by rw [List.length_replicate]; omega), if_pos (by rw [tab_length]; omega), wrap_nat _ (by omega), tab_rep, Int.toNat_natCast, tab_set, e, ← tab_succ, ih k (i + 1) (by omega) (by omega)]
theorem sunit_f (k n : Nat) (hn : n ≤ 6) (hk : 7 ≤ k) : spec_l08Unit.f k (n : Int) = some (mat n eye) := sunit_l0 n hn n k 0 (by omega) (by omega)
theorem diag_mat (n : Nat) : ∀ i, i ≤ n → impl_product.diag i (mat n fun _ _ => 0) = mat n fun p q => if p < i then eye p q else 0 := by
 intro i
 induction i with
 | zero => intro _; rw [impl_product.diag]; unfold mat; refine tab_congr fun p hp => tab_congr fun q hq => ?_; dsimp only; rw [if_neg (by omega)]
 | succ i ih =>
  intro h
  have hg : (mat n fun p q => if p < i then eye p q else 0).getD i [] = tab n fun _ => 0 := by
   rw [List.getD_eq_getElem?_getD, List.getElem?_eq_getElem (by unfold mat; rw [tab_length]; omega), Option.getD_some]
   unfold mat
   rw [tab_get]
   refine tab_congr fun q hq => ?_
   dsimp only
   rw [if_neg (by omega)]
  rw [impl_product.diag, ih (by omega), hg, tab_set]
  unfold mat
  rw [tab_set]
  refine tab_congr fun p hp => ?_
  by_cases e : p = i
  ·rw [if_pos e]
   refine tab_congr fun q hq => ?_
   dsimp only
   by_cases e2 : q = i
   ·rw [if_pos e2, if_pos (show p < i + 1 by omega), e, e2]; unfold eye; rw [if_pos rfl]
   ·rw [if_neg e2, if_pos (show p < i + 1 by omega), e]; unfold eye; rw [if_neg (Ne.symm e2)]
  ·rw [if_neg e]
   refine tab_congr fun q hq => ?_
   dsimp only
   by_cases e2 : p < i
   ·rw [if_pos e2, if_pos (by omega)]
   ·rw [if_neg e2, if_neg (by omega)]
theorem over_mat (n : Nat) (f : Nat → Nat → Int) : impl_product.over (mat n f) = !(okM n f) := by
 have h : ∀ t : List (List Int), impl_product.over t = !(t.all fun x => x.all okV) := by
  intro t
  unfold impl_product.over
  have e : (fun x : List Int => !(!(x.any fun n => !(Hand.upToB n 1000000000)))) = fun x => !(x.all okV) := by
   funext x
   rw [not_any_not]
   congr 2
   funext q
   unfold Hand.upToB okV
   rw [wrap_of (-1000000000) (by omega) (by omega)]
  rw [e, ← not_any_not, Bool.not_not]
 rw [h]
 unfold mat okM
 rw [all_tab, allF_range]
 congr 2
 funext p
 rw [all_tab, allF_range]
/-- A word's letter, as a place among the tables. -/
def ltr (w : ByteArray) (i : Nat) : Nat := (((bt w i) - 48) % 256).toNat
def pm (n : Nat) (a b : Nat → Nat → Int) : Nat → Nat → Int := fun i j => ps a b i j n
/-- The product from letter i on. -/
def prodR (n : Nat) (F : Nat → Nat → Nat → Int) (w : ByteArray) : Nat → Nat → (Nat → Nat → Int) → List (List Int) × Bool
 | 0, _, f => (mat n f, true)
 | e + 1, i, f => if okM n (pm n f (F (ltr w i))) = true then prodR n F w e (i + 1) (pm n f (F (ltr w i))) else (([] : List (List Int)), false)
theorem okM_big {n : Nat} {f : Nat → Nat → Int} (h : okM n f = true) : big n f := by
 intro i j hi hj
 unfold okM at h
 rw [allF_iff] at h
 have := h i (Nat.zero_le _) (by omega)
 rw [allF_iff] at this
 have := this j (Nat.zero_le _) (by omega)
 unfold okV at this
 simp only [Bool.and_eq_true, decide_eq_true_eq] at this
 exact this
theorem prodR_form (n : Nat) (F : Nat → Nat → Nat → Int) (w : ByteArray) : ∀ e i f, (∃ g, prodR n F w e i f = (mat n g, true)) ∨ prodR n F w e i f = (([] : List (List Int)), false) := by
 intro e
 induction e with
 | zero => intro i f; exact .inl ⟨f, rfl⟩
 | succ e ih =>
  intro i f
  rw [prodR]
  split
  ·exact ih _ _
  ·exact .inr rfl
theorem ltr_lt {d : Nat} (hd : d ≤ 3) {w : ByteArray} (h : okW d w) (i : Nat) (hi : i < w.size) : ltr w i < d ∧ ((bt w i) - 48) % 256 = (ltr w i : Int) := by
 have := h i hi
 unfold ltr
 omega
theorem sprod_l0 {n : Nat} {l : List (List (List Int))} {F : Nat → Nat → Nat → Int} (T : Tabs n l F) (w : ByteArray) (hw : okW l.length w) (hs : w.size ≤ 1000000) : ∀ e k i f, i + e = w.size → big n f → 500 + e ≤ k →
 spec_l08Product.l0 k l w (mat n f) (i : Int) = some (prodR n F w e i f) := by
 intro e
 have hl := T.len
 induction e with
 | zero =>
  intro k i f h hf hk
  obtain ⟨k, rfl⟩ : ∃ m, k = m + 1 := ⟨k - 1, by omega⟩
  rw [spec_l08Product.l0, if_neg (by omega), prodR]
 | succ e ih =>
  intro k i f h hf hk
  obtain ⟨k, rfl⟩ : ∃ m, k = m + 1 := ⟨k - 1, by omega⟩
  obtain ⟨h1, h2⟩ := ltr_lt hl hw i (by omega)
  obtain ⟨t1, t2⟩ := T.at_ (ltr w i) h1
  rw [spec_l08Product.l0, if_pos (by omega), if_pos (by omega), h2, if_pos (by omega), if_pos (by omega), rdT_nat l _ h1, t1, stimesB_f k n T.dim (by omega) f _ hf t2, Option.bind_some, prodR]
  by_cases ho : okM n (pm n f (F (ltr w i))) = true
  ·rw [if_pos ho, if_pos (show okM n (fun p j => ps f (F (ltr w i)) p j n) = true from ho), if_pos rfl, wrap_nat _ (by omega)]
   exact ih k (i + 1) _ (by omega) (okM_big ho) (by omega)
  ·rw [if_neg ho, if_neg (show ¬ okM n (fun p j => ps f (F (ltr w i)) p j n) = true from ho), if_neg (by simp)]
theorem iprod_l0 {n : Nat} {l : List (List (List Int))} {F : Nat → Nat → Nat → Int} (T : Tabs n l F) (w : ByteArray) (hw : okW l.length w) (hs : w.size ≤ 1000000) : ∀ e k i f, i + e = w.size → big n f → 500 + e ≤ k →
 impl_product.l0 k l w (mat n f) (w.size : Int) (i : Int) = some (prodR n F w e i f) := by
 intro e
 have hl := T.len
 induction e with
 | zero =>
  intro k i f h hf hk
  obtain ⟨k, rfl⟩ : ∃ m, k = m + 1 := ⟨k - 1, by omega⟩
  rw [impl_product.l0, if_neg (by omega), prodR]
 | succ e ih =>
  intro k i f h hf hk
  obtain ⟨k, rfl⟩ : ∃ m, k = m + 1 := ⟨k - 1, by omega⟩
  obtain ⟨h1, h2⟩ := ltr_lt hl hw i (by omega)
  obtain ⟨t1, t2⟩ := T.at_ (ltr w i) h1
  rw [impl_product.l0, if_pos (by omega), if_pos (by omega), if_pos (by omega), h2, if_pos (by omega), if_pos (by omega), rdT_nat l _ h1, t1, timesB_f k n T.dim (by omega) f _ hf t2, Option.bind_some, over_mat, prodR]
  by_cases ho : okM n (pm n f (F (ltr w i))) = true
  ·rw [if_pos ho, show okM n (fun p j => ps f (F (ltr w i)) p j n) = true from ho, if_neg (by simp), wrap_nat _ (by omega)]
   exact ih k (i + 1) _ (by omega) (okM_big ho) (by omega)
  ·rw [if_neg ho, show okM n (fun p j => ps f (F (ltr w i)) p j n) = false from Bool.eq_false_iff.mpr ho, if_pos (by simp)]
theorem first_len {n : Nat} {l : List (List (List Int))} {F : Nat → Nat → Nat → Int} (T : Tabs n l F) (h0 : 0 < l.length) : rd_L4 l 0 = mat n (F 0) := by
 have := rdT_nat l 0 h0
 rw [show ((0 : Nat) : Int) = 0 from rfl] at this
 rw [this]
 exact (T.at_ 0 h0).1
theorem spec_product_f {n : Nat} {l : List (List (List Int))} {F : Nat → Nat → Nat → Int} (T : Tabs n l F) (h0 : 0 < l.length) (w : ByteArray) (hw : okW l.length w) (hs : w.size ≤ 1000000) (k : Nat) (hk : 500 + w.size ≤ k) : spec_l08Product.f k l w = some (prodR n F w w.size 0 eye) := by
 unfold spec_l08Product.f
 rw [if_pos (by omega), first_len T h0, mat_length, sunit_f k n T.dim (by omega), Option.bind_some]
 exact sprod_l0 T w hw hs w.size k 0 eye (by omega) (eye_big n) hk
theorem impl_product_f {n : Nat} {l : List (List (List Int))} {F : Nat → Nat → Nat → Int} (T : Tabs n l F) (h0 : 0 < l.length) (w : ByteArray) (hw : okW l.length w) (hs : w.size ≤ 1000000) (k : Nat) (hk : 500 + w.size ≤ k) : impl_product.f k l w = some (prodR n F w w.size 0 eye) := by
 have hd : impl_product.diag (mat n fun _ _ => 0).length (mat n fun _ _ => 0) = mat n eye := by
  rw [mat_length, diag_mat n n (Nat.le_refl _)]
  unfold mat
  refine tab_congr fun p hp => tab_congr fun q hq => ?_
  dsimp only
  rw [if_pos hp]
 have hc : ∀ j, j < (mat n fun _ _ => (0 : Int)).length → (mat n fun _ _ => (0 : Int)).length ≤ ((mat n fun _ _ => (0 : Int)).getD j []).length := by
  intro j hj
  rw [mat_length] at hj ⊢
  rw [List.getD_eq_getElem?_getD, List.getElem?_eq_getElem (by rw [mat_length]; exact hj), Option.getD_some]
  unfold mat
  rw [tab_get, tab_length]
  exact Nat.le_refl _
 unfold impl_product.f
 rw [if_pos (by omega), first_len T h0, mat_length, square_f k n T.dim (by omega), Option.bind_some, if_pos hc, hd]
 exact iprod_l0 T w hw hs w.size k 0 eye (by omega) (eye_big n) hk

def isWd (d : Int) (s : ByteArray) : Nat → Nat → Bool
 | 0, _ => true
 | n + 1, i => (decide (48 ≤ bt s i) && decide (bt s i < 48 + d)) && isWd d s n (i + 1)
theorem isWd_fits (d : Int) (s : ByteArray) : ∀ n i, isWd d s n i = true → ∀ q : Nat, i ≤ q → q < i + n → (bt s q - 48) % 256 < d := by
 intro n
 induction n with
 | zero => intro i _ q h1 h2; omega
 | succ n ih =>
  intro i h q h1 h2
  simp only [isWd, Bool.and_eq_true, decide_eq_true_eq] at h
  by_cases e : q = i
  ·subst e; have := bt_range s q; omega
  ·exact ih (i + 1) h.2 q (by omega) (by omega)
theorem spec_l01Word_l0 (d : Int) (hd : 1 ≤ d) (hd3 : d ≤ 3) (s : ByteArray) (hs : s.size ≤ 1048576) : ∀ n k i, i + n = s.size → n < k → spec_l01Word.l0 k d s (i : Int) = some (isWd d s n i) := by
 intro n
 induction n with
 | zero =>
  intro k i h hk
  obtain ⟨k, rfl⟩ : ∃ m, k = m + 1 := ⟨k - 1, by omega⟩
  rw [spec_l01Word.l0, if_neg (by omega)]; rfl
 | succ n ih =>
  intro k i h hk
  obtain ⟨k, rfl⟩ : ∃ m, k = m + 1 := ⟨k - 1, by omega⟩
  have hb := bt_range s i
  rw [spec_l01Word.l0, if_pos (by omega), if_pos (by omega), wrap_nat _ (by omega), ih k (i + 1) (by omega) (by omega), isWd]
  by_cases h1 : bt s i < 48
  ·rw [if_pos h1, decide_eq_false (by omega : ¬ 48 ≤ bt s i)]; rfl
  ·rw [if_neg h1, decide_eq_true (by omega : 48 ≤ bt s i)]
   by_cases h2 : (bt s i - 48) % 256 ≥ d
   ·rw [if_pos h2, decide_eq_false (by omega : ¬ bt s i < 48 + d)]; rfl
   ·rw [if_neg h2, decide_eq_true (by omega : bt s i < 48 + d)]; simp
theorem impl_isWord_l0 (d : Int) (hd : 1 ≤ d) (hd3 : d ≤ 3) (s : ByteArray) (hs : s.size ≤ 1048576) : ∀ n k i, i + n = s.size → n < k → impl_isWord.l0 k d s 1099511627776 (s.size : Int) (i : Int) = some (isWd d s n i) := by
 intro n
 induction n with
 | zero =>
  intro k i h hk
  obtain ⟨k, rfl⟩ : ∃ m, k = m + 1 := ⟨k - 1, by omega⟩
  rw [impl_isWord.l0, if_neg (by omega), decide_eq_true (by omega)]; rfl
 | succ n ih =>
  intro k i h hk
  obtain ⟨k, rfl⟩ : ∃ m, k = m + 1 := ⟨k - 1, by omega⟩
  have hb := bt_range s i
  rw [impl_isWord.l0, if_pos (by omega), if_pos (by omega), if_pos (by omega), wrap_nat _ (by omega), wrap_of (bt s i) (by omega) (by omega), wrap_of (48 + d) (by omega) (by omega), ih k (i + 1) (by omega) (by omega), isWd]
  by_cases h1 : bt s i < 48
  ·rw [if_pos h1, decide_eq_false (by omega : ¬ 48 ≤ bt s i)]; rfl
  ·rw [if_neg h1, decide_eq_true (by omega : 48 ≤ bt s i)]
   by_cases h2 : bt s i ≥ 48 + d
   ·rw [if_pos h2, decide_eq_false (by omega : ¬ bt s i < 48 + d)]; rfl
   ·rw [if_neg h2, decide_eq_true (by omega : bt s i < 48 + d)]; simp
theorem isWd_ok (d : Int) (s : ByteArray) : ∀ n i, isWd d s n i = true → ∀ q : Nat, i ≤ q → q < i + n → 48 ≤ bt s q ∧ bt s q < 48 + d := by
 intro n
 induction n with
 | zero => intro i _ q h1 h2; omega
 | succ n ih =>
  intro i h q h1 h2
  simp only [isWd, Bool.and_eq_true, decide_eq_true_eq] at h
  by_cases e : q = i
  ·subst e; exact h.1
  ·exact ih (i + 1) h.2 q (by omega) (by omega)
theorem spec_l01Word_f (k : Nat) (d : Int) (hd : 1 ≤ d) (hd3 : d ≤ 3) (s : ByteArray) (hs : s.size ≤ 1048576) (hk : s.size < k) : spec_l01Word.f k d s = some (isWd d s s.size 0) :=
 spec_l01Word_l0 d hd hd3 s hs s.size k 0 (by omega) hk
theorem impl_isWord_f (k : Nat) (d : Int) (hd : 1 ≤ d) (hd3 : d ≤ 3) (s : ByteArray) (hs : s.size ≤ 1048576) (hk : s.size < k) : impl_isWord.f k d s 1099511627776 = some (isWd d s s.size 0) :=
 impl_isWord_l0 d hd hd3 s hs s.size k 0 (by omega) hk

def poRes (d : Int) (l : List (List (List Int))) (s : ByteArray) : List (List Int) × Int :=
 if (areTabs d l && isWd d s s.size 0) = true then (if (s.size : Int) > 5 then ([], 2) else (if (prodR (dimOf l).toNat (fun q => ent (l.getD q [])) s s.size 0 eye).2 = true then ((prodR (dimOf l).toNat (fun q => ent (l.getD q [])) s s.size 0 eye).1, 0) else ([], 3))) else ([], 1)
theorem wd_okW {d : Int} {s : ByteArray} {L : Nat} (hL : (L : Int) = d) (h : isWd d s s.size 0 = true) : okW L s := by
 intro i hi
 have := isWd_ok d s s.size 0 h i (by omega) (by omega)
 omega
theorem spec_ProductOfWord_f (K : Nat) (d : Int) (l : List (List (List Int))) (s : ByteArray) (hk : 2000000 ≤ K) (hl : l.length ≤ 4000000) (hs : s.size ≤ 1048576) : spec_ProductOfWord.f K d l s = some (poRes d l s) := by
 unfold spec_ProductOfWord.f poRes
 obtain ⟨K, rfl⟩ : ∃ q, K = q + 1 := ⟨K - 1, by omega⟩
 rw [spec_l08Are_f _ d l (by omega) hl, Option.bind_some]
 by_cases h : areTabs d l = true
 ·obtain ⟨d1, d3, dl⟩ := areTabs_d h
  have T := areTabs_tabs h
  rw [if_pos h, spec_l01Word_f _ d d1 d3 s hs (by omega), Option.bind_some, spec_ProductOfWord.j0]
  by_cases hw : isWd d s s.size 0 = true
  ·rw [if_neg (by simp [hw]), if_pos (show (areTabs d l && isWd d s s.size 0) = true by rw [h, hw]; rfl)]
   by_cases h5 : (s.size : Int) > 5
   ·rw [if_pos h5, if_pos h5]
   ·rw [if_neg h5, if_neg h5, spec_product_f T (by omega) s (wd_okW dl hw) (by omega) K (by omega), Option.bind_some]
    split <;> rfl
  ·rw [if_pos (by simp [hw]), if_neg (by simp [hw])]
 ·rw [if_neg h, spec_ProductOfWord.j0, if_pos rfl, if_neg (by simp [h])]
theorem impl_ProductOfWord_f (K : Nat) (d : Int) (l : List (List (List Int))) (s : ByteArray) (hk : 2000000 ≤ K) (hs : s.size ≤ 1048576) : impl_ProductOfWord.f K d l s = some (poRes d l s) := by
 unfold impl_ProductOfWord.f poRes
 obtain ⟨K, rfl⟩ : ∃ q, K = q + 1 := ⟨K - 1, by omega⟩
 rw [impl_AreTables_f d l, Option.bind_some]
 by_cases h : areTabs d l = true
 ·obtain ⟨d1, d3, dl⟩ := areTabs_d h
  have T := areTabs_tabs h
  rw [if_pos h, impl_isWord_f _ d d1 d3 s hs (by omega), Option.bind_some, impl_ProductOfWord.j0]
  by_cases hw : isWd d s s.size 0 = true
  ·rw [if_neg (by simp [hw]), if_pos (show (areTabs d l && isWd d s s.size 0) = true by rw [h, hw]; rfl)]
   by_cases h5 : (s.size : Int) > 5
   ·rw [if_pos h5, if_pos h5]
   ·rw [if_neg h5, if_neg h5, impl_product_f T (by omega) s (wd_okW dl hw) (by omega) K (by omega), Option.bind_some]
    split <;> rfl
  ·rw [if_pos (by simp [hw]), if_neg (by simp [hw])]
 ·rw [if_neg h, impl_ProductOfWord.j0, if_pos rfl, if_neg (by simp [h])]
theorem poRes_small (d : Int) (l : List (List (List Int))) (s : ByteArray) : (poRes d l s).1 = [] ∨ ∃ n f, n ≤ 6 ∧ (poRes d l s).1 = mat n f := by
 unfold poRes
 by_cases h : (areTabs d l && isWd d s s.size 0) = true
 ·rw [if_pos h]
  have T := areTabs_tabs (d := d) (l := l) (by simp only [Bool.and_eq_true] at h; exact h.1)
  split
  ·exact .inl rfl
  ·split
   ·rcases prodR_form (dimOf l).toNat (fun q => ent (l.getD q [])) s s.size 0 eye with ⟨g, hg⟩ | hg
    ·exact .inr ⟨_, g, T.dim, by rw [hg]⟩
    ·rw [hg]; exact .inl rfl
   ·exact .inl rfl
 ·rw [if_neg h]; exact .inl rfl

end Go.Proofs.Ytkbneilobaehkaa.Pure
