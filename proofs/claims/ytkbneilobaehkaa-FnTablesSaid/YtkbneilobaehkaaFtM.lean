/- Plain lemmas: the product of a word is that of its parts; the tables of a word read it. -/
import Derived.Test.YtkbneilobaehkaaFtT
namespace Go.Proofs.Ytkbneilobaehkaa.Pure
open Go.RowKit Go.Proofs.Ytkbneilobaehkaa.P Go.Proofs.YtkbneilobaehkaaW.PrintWords Go.Proofs.YtkbneilobaehkaaW.PrintLast
set_option linter.unusedVariables false
set_option linter.unusedSimpArgs false

theorem ps_congr {a a' b b' : Nat → Nat → Int} {i j : Nat} : ∀ t, (∀ s, s < t → a i s = a' i s) → (∀ s, s < t → b s j = b' s j) → ps a b i j t = ps a' b' i j t := by
 intro t
 induction t with
 | zero => intro _ _; rfl
 | succ t ih =>
  intro h1 h2
  simp only [ps]
  rw [ih (fun s hs => h1 s (by omega)) (fun s hs => h2 s (by omega)), h1 t (by omega), h2 t (by omega)]
theorem ps_zero (a : Nat → Nat → Int) (i j : Nat) : ∀ t, ps a (fun _ _ => 0) i j t = 0 := by
 intro t
 induction t with
 | zero => rfl
 | succ t ih => simp only [ps]; rw [ih]; omega
theorem ps_add (a x b : Nat → Nat → Int) (c : Int) (i j m : Nat) : ∀ t, ps a (fun r j => x r j + b r m * c) i j t = ps a x i j t + ps a b i m t * c := by
 intro t
 induction t with
 | zero => simp [ps]
 | succ t ih =>
  simp only [ps]
  rw [ih, Int.mul_add, Int.add_mul, Int.mul_assoc]
  omega
/-- Products of matrices do not depend on the brackets. -/
theorem ps_assoc (n : Nat) (a b c : Nat → Nat → Int) (i j : Nat) : ∀ m, ps (pm n a b) c i j m = ps a (fun r j => ps b c r j m) i j n := by
 intro m
 induction m with
 | zero => simp only [ps]; rw [ps_zero]
 | succ m ih =>
  have h := ps_add a (fun r j => ps b c r j m) b (c m j) i j m n
  have h2 : ps a (fun r j => ps b c r j (m + 1)) i j n = ps a (fun r j' => ps b c r j' m + b r m * c m j) i j n := ps_congr n (fun _ _ => rfl) (fun _ _ => rfl)
  rw [h2, h]
  simp only [ps]
  rw [ih]
  rfl
theorem ps_eye (f : Nat → Nat → Int) (i j : Nat) : ∀ t, ps f eye i j t = if j < t then f i j else 0 := by
 intro t
 induction t with
 | zero => simp [ps]
 | succ t ih =>
  simp only [ps]
  rw [ih]
  unfold eye
  by_cases h : j < t
  ·rw [if_pos h, if_neg (by omega), if_pos (by omega)]; omega
  ·rw [if_neg h]
   by_cases h2 : t = j
   ·rw [if_pos h2, if_pos (by omega), h2]; omega
   ·rw [if_neg h2, if_neg (by omega)]; omega
theorem eye_ps (f : Nat → Nat → Int) (i j : Nat) : ∀ t, ps eye f i j t = if i < t then f i j else 0 := by
 intro t
 induction t with
 | zero => simp [ps]
 | succ t ih =>
  simp only [ps]
  rw [ih]
  unfold eye
  by_cases h : i < t
  ·rw [if_pos h, if_neg (by omega), if_pos (by omega)]; omega
  ·rw [if_neg h]
   by_cases h2 : i = t
   ·rw [if_pos h2, if_pos (by omega), h2]; omega
   ·rw [if_neg h2, if_neg (by omega)]; omega
/-- The product from letter i on, whatever its entries are. -/
def rawP (n : Nat) (F : Nat → Nat → Nat → Int) (w : ByteArray) : Nat → Nat → (Nat → Nat → Int) → Nat → Nat → Int
 | 0, _, f => f
 | e + 1, i, f => rawP n F w e (i + 1) (pm n f (F (ltr w i)))
theorem rawP_congr (n : Nat) (F : Nat → Nat → Nat → Int) (w : ByteArray) : ∀ e i f g, (∀ p q, p < n → q < n → f p q = g p q) → ∀ p q, p < n → q < n → rawP n F w e i f p q = rawP n F w e i g p q := by
 intro e
 induction e with
 | zero => intro i f g h; exact h
 | succ e ih =>
  intro i f g h
  exact ih (i + 1) _ _ (fun p q hp hq => ps_congr n (fun s hs => h p s hp hs) (fun _ _ => rfl))
theorem rawP_split (n : Nat) (F : Nat → Nat → Nat → Int) (w : ByteArray) (e2 : Nat) : ∀ e1 i f, rawP n F w (e1 + e2) i f = rawP n F w e2 (i + e1) (rawP n F w e1 i f) := by
 intro e1
 induction e1 with
 | zero => intro i f; rw [Nat.zero_add]; rfl
 | succ e1 ih =>
  intro i f
  rw [show e1 + 1 + e2 = (e1 + e2) + 1 from by omega, rawP, ih, show i + (e1 + 1) = i + 1 + e1 from by omega, rawP]
theorem rawP_mul (n : Nat) (F : Nat → Nat → Nat → Int) (w : ByteArray) : ∀ e i f p q, p < n → q < n → rawP n F w e i f p q = ps f (rawP n F w e i eye) p q n := by
 intro e
 induction e with
 | zero => intro i f p q hp hq; simp only [rawP]; rw [ps_eye, if_pos hq]
 | succ e ih =>
  intro i f p q hp hq
  rw [rawP, ih (i + 1) _ p q hp hq, ps_assoc]
  refine ps_congr n (fun _ _ => rfl) (fun s hs => ?_)
  rw [rawP, ih (i + 1) _ s q hs hq]
  refine ps_congr n (fun t ht => ?_) (fun _ _ => rfl)
  unfold pm
  rw [eye_ps, if_pos hs]
theorem prodR_true (n : Nat) (F : Nat → Nat → Nat → Int) (w : ByteArray) : ∀ e i f, big n f → (prodR n F w e i f).2 = true → prodR n F w e i f = (mat n (rawP n F w e i f), true) ∧ big n (rawP n F w e i f) := by
 intro e
 induction e with
 | zero => intro i f hf _; exact ⟨rfl, hf⟩
 | succ e ih =>
  intro i f hf h
  rw [prodR] at h ⊢
  by_cases hk : okM n (pm n f (F (ltr w i))) = true
  ·rw [if_pos hk] at h ⊢; exact ih (i + 1) _ (okM_big hk) h
  ·rw [if_neg hk] at h; cases h
theorem prodR_pre (n : Nat) (F : Nat → Nat → Nat → Int) (w : ByteArray) (e2 : Nat) : ∀ e1 i f, (prodR n F w (e1 + e2) i f).2 = true → (prodR n F w e1 i f).2 = true := by
 intro e1
 induction e1 with
 | zero => intro i f _; rfl
 | succ e1 ih =>
  intro i f h
  rw [show e1 + 1 + e2 = (e1 + e2) + 1 from by omega, prodR] at h
  rw [prodR]
  by_cases hk : okM n (pm n f (F (ltr w i))) = true
  ·rw [if_pos hk] at h ⊢; exact ih (i + 1) _ h
  ·rw [if_neg hk] at h; cases h
theorem prodR_word (n : Nat) (F : Nat → Nat → Nat → Int) (w w' : ByteArray) (c : Nat) : ∀ e i f, (∀ q, q < e → ltr w' (i + q) = ltr w (c + i + q)) → prodR n F w' e i f = prodR n F w e (c + i) f ∧ rawP n F w' e i f = rawP n F w e (c + i) f := by
 intro e
 induction e with
 | zero => intro i f _; exact ⟨rfl, rfl⟩
 | succ e ih =>
  intro i f h
  have h0 := h 0 (by omega)
  have h1 := fun f => ih (i + 1) f (fun q hq => by rw [show i + 1 + q = i + (q + 1) from by omega, show c + (i + 1) + q = c + i + (q + 1) from by omega]; exact h (q + 1) (by omega))
  simp only [Nat.add_zero] at h0
  rw [prodR, prodR, rawP, rawP, h0, (h1 _).1, (h1 _).2, Nat.add_assoc]
  exact ⟨rfl, rfl⟩
theorem bt_extract (w : ByteArray) (a b q : Nat) (hb : b ≤ w.size) (hq : a + q < b) : bt (w.extract a b) (q : Int) = bt w ((a + q : Nat) : Int) := by
 have h1 : (w.extract a b).size = b - a := by rw [ByteArray.size_extract, Nat.min_eq_left hb]
 unfold bt
 rw [dif_pos (by omega), dif_pos (by omega)]
 simp only [Int.toNat_natCast]
 rw [ByteArray.getElem_extract]
theorem size_extract' (w : ByteArray) (a b : Nat) (hb : b ≤ w.size) : (w.extract a b).size = b - a := by rw [ByteArray.size_extract, Nat.min_eq_left hb]
theorem isWd_iff (d : Int) (s : ByteArray) : ∀ n i, isWd d s n i = true ↔ ∀ q : Nat, i ≤ q → q < i + n → 48 ≤ bt s q ∧ bt s q < 48 + d := by
 intro n i
 refine ⟨isWd_ok d s n i, ?_⟩
 induction n generalizing i with
 | zero => intro _; rfl
 | succ n ih =>
  intro h
  simp only [isWd, Bool.and_eq_true, decide_eq_true_eq]
  exact ⟨h i (Nat.le_refl _) (by omega), ih (i + 1) (fun q h1 h2 => h q (by omega) (by omega))⟩
theorem isWd_part (d : Int) (s : ByteArray) (a b : Nat) (hb : b ≤ s.size) (h : isWd d s s.size 0 = true) : isWd d (s.extract a b) (s.extract a b).size 0 = true := by
 rw [isWd_iff] at h ⊢
 intro q _ hq
 rw [size_extract' s a b hb] at hq
 rw [bt_extract s a b q hb (by omega)]
 exact h (a + q) (by omega) (by omega)
theorem ltr_part (w : ByteArray) (a b q : Nat) (hb : b ≤ w.size) (hq : a + q < b) : ltr (w.extract a b) q = ltr w (a + q) := by
 unfold ltr
 rw [bt_extract w a b q hb hq]
theorem poRes_zero {d : Int} {l : List (List (List Int))} {w : ByteArray} (h : (poRes d l w).2 = 0) : areTabs d l = true ∧ isWd d w w.size 0 = true ∧ w.size ≤ 5 ∧ (prodR (dimOf l).toNat (fun q => ent (l.getD q [])) w w.size 0 eye).2 = true ∧ (poRes d l w).1 = (prodR (dimOf l).toNat (fun q => ent (l.getD q [])) w w.size 0 eye).1 := by
 unfold poRes at h ⊢
 by_cases h1 : (areTabs d l && isWd d w w.size 0) = true
 ·rw [if_pos h1] at h ⊢
  simp only [Bool.and_eq_true] at h1
  by_cases h2 : (w.size : Int) > 5
  ·rw [if_pos h2] at h; cases h
  ·rw [if_neg h2] at h ⊢
   by_cases h3 : (prodR (dimOf l).toNat (fun q => ent (l.getD q [])) w w.size 0 eye).2 = true
   ·rw [if_pos h3]; exact ⟨h1.1, h1.2, by omega, h3, rfl⟩
   ·rw [if_neg h3] at h; cases h
 ·rw [if_neg h1] at h; cases h
theorem poRes_none {d : Int} {l : List (List (List Int))} {w : ByteArray} (h : (poRes d l w).2 ≠ 0) : (poRes d l w).1 = [] := by
 unfold poRes at h ⊢
 split at h
 ·rename_i h1
  rw [if_pos h1]
  split at h
  ·rename_i h2; rw [if_pos h2]
  ·rename_i h2
   rw [if_neg h2]
   split at h
   ·exact absurd rfl h
   ·rename_i h3; rw [if_neg h3]
 ·rename_i h1; rw [if_neg h1]
theorem poRes_of {d : Int} {l : List (List (List Int))} {w : ByteArray} (h1 : areTabs d l = true) (h2 : isWd d w w.size 0 = true) (h3 : w.size ≤ 5) (h4 : (prodR (dimOf l).toNat (fun q => ent (l.getD q [])) w w.size 0 eye).2 = true) : poRes d l w = ((prodR (dimOf l).toNat (fun q => ent (l.getD q [])) w w.size 0 eye).1, 0) := by
 unfold poRes
 rw [if_pos (by rw [h1, h2]; rfl), if_neg (by omega), if_pos h4]
theorem parts_left {d : Int} {l : List (List (List Int))} {w : ByteArray} (h : (poRes d l w).2 = 0) (a : Nat) (ha : a ≤ w.size) : (poRes d l (w.extract 0 a)).2 = 0 ∧ (poRes d l (w.extract 0 a)).1 = mat (dimOf l).toNat (rawP (dimOf l).toNat (fun q => ent (l.getD q [])) w a 0 eye) ∧ big (dimOf l).toNat (rawP (dimOf l).toNat (fun q => ent (l.getD q [])) w a 0 eye) := by
 obtain ⟨h1, h2, h3, h4, h5⟩ := poRes_zero h
 have hs := size_extract' w 0 a ha
 have hs : (w.extract 0 a).size = a := by omega
 have hp := prodR_pre (dimOf l).toNat (fun q => ent (l.getD q [])) w (w.size - a) a 0 eye (by rw [show a + (w.size - a) = w.size from by omega]; exact h4)
 have hw := prodR_word (dimOf l).toNat (fun q => ent (l.getD q [])) w (w.extract 0 a) 0 a 0 eye (fun q hq => by simp only [Nat.zero_add]; rw [ltr_part w 0 a q ha (by omega), Nat.zero_add])
 have ht := prodR_true _ _ w a 0 eye (eye_big _) hp
 have e := poRes_of h1 (isWd_part d w 0 a ha h2) (by omega) (by rw [hs, hw.1]; exact hp)
 rw [e, hs, hw.1]
 exact ⟨rfl, by rw [show 0 + 0 = 0 from rfl, ht.1], ht.2⟩
theorem parts_right {d : Int} {l : List (List (List Int))} {w : ByteArray} (a : Nat) (ha : a ≤ w.size) (h : (poRes d l (w.extract a w.size)).2 = 0) : (poRes d l (w.extract a w.size)).1 = mat (dimOf l).toNat (rawP (dimOf l).toNat (fun q => ent (l.getD q [])) w (w.size - a) a eye) ∧ big (dimOf l).toNat (rawP (dimOf l).toNat (fun q => ent (l.getD q [])) w (w.size - a) a eye) := by
 obtain ⟨h1, h2, h3, h4, h5⟩ := poRes_zero h
 have hs := size_extract' w a w.size (Nat.le_refl _)
 have hw := prodR_word (dimOf l).toNat (fun q => ent (l.getD q [])) w (w.extract a w.size) a (w.size - a) 0 eye (fun q hq => by rw [show 0 + q = q from by omega, show a + 0 + q = a + q from by omega, ltr_part w a w.size q (Nat.le_refl _) (by omega)])
 have ht := prodR_true _ _ _ _ 0 eye (eye_big _) h4
 rw [h5, ht.1, hs, hw.2]
 rw [hs, hw.2] at ht
 exact ⟨rfl, ht.2⟩
theorem parts_mul (n : Nat) (F : Nat → Nat → Nat → Int) (w : ByteArray) (a : Nat) (ha : a ≤ w.size) (p q : Nat) (hp : p < n) (hq : q < n) : ps (rawP n F w a 0 eye) (rawP n F w (w.size - a) a eye) p q n = rawP n F w w.size 0 eye p q := by
 have h := rawP_split n F w (w.size - a) a 0 eye
 rw [show a + (w.size - a) = w.size from by omega, show 0 + a = a from by omega] at h
 rw [h, rawP_mul n F w _ a _ p q hp hq]
/-- A sum with one part. -/
theorem ps_one (a b : Nat → Nat → Int) (i j u : Nat) : ∀ t, (∀ s, s < t → s ≠ u → a i s = 0) → ps a b i j t = if u < t then a i u * b u j else 0 := by
 intro t
 induction t with
 | zero => intro _; simp [ps]
 | succ t ih =>
  intro h
  simp only [ps]
  rw [ih (fun s hs => h s (by omega))]
  by_cases h1 : u < t
  ·rw [if_pos h1, if_pos (by omega), h t (by omega) (by omega)]; omega
  ·rw [if_neg h1]
   by_cases h2 : t = u
   ·rw [if_pos (by omega), h2]; omega
   ·rw [if_neg (by omega), h t (by omega) h2]; omega
/-- How the product looks after i letters: shifted, and its first row is that of place i. -/
def Sh (n i : Nat) (f : Nat → Nat → Int) : Prop := (∀ p q, p < n → q < n → (q ≠ p + i → f p q = 0) ∧ 0 ≤ f p q ∧ f p q ≤ 1) ∧ (i < n → f 0 i = 1)
theorem sh_okM {n i : Nat} {f : Nat → Nat → Int} (h : Sh n i f) : okM n f = true := by
 unfold okM
 rw [allF_iff]
 intro p _ hp
 rw [allF_iff]
 intro q _ hq
 have := h.1 p q (by omega) (by omega)
 unfold okV
 simp only [Bool.and_eq_true, decide_eq_true_eq]
 omega
theorem sh_step {s : ByteArray} {i : Nat} {f : Nat → Nat → Int} (hi : i < s.size) (G : Nat → Nat → Int) (hG : ∀ p q, p < s.size + 1 → q < s.size + 1 → G p q = ET s s.size (ltr s i) p q) (h : Sh (s.size + 1) i f) : Sh (s.size + 1) (i + 1) (pm (s.size + 1) f G) := by
 have hv : ∀ p q, p < s.size + 1 → q < s.size + 1 → pm (s.size + 1) f G p q = if p + i < s.size + 1 then f p (p + i) * ET s s.size (ltr s i) (p + i) q else 0 := by
  intro p q hp hq
  unfold pm
  rw [ps_one f G p q (p + i) (s.size + 1) (fun t ht hne => (h.1 p t hp ht).1 hne)]
  split
  ·rw [hG _ _ (by omega) hq]
  ·rfl
 refine ⟨fun p q hp hq => ?_, fun hi1 => ?_⟩
 ·rw [hv p q hp hq]
  split
  ·have h1 := h.1 p (p + i) hp (by omega)
   unfold ET
   split
   ·rename_i h2
    refine ⟨fun hne => absurd (show q = p + (i + 1) by omega) hne, by omega, by omega⟩
   ·exact ⟨fun _ => by omega, by omega, by omega⟩
  ·exact ⟨fun _ => rfl, by omega, by omega⟩
 ·rw [hv 0 (i + 1) (by omega) hi1, if_pos (by omega), show 0 + i = i from by omega, h.2 (by omega)]
  unfold ET
  rw [if_pos ⟨by omega, rfl, rfl⟩]
  omega
theorem sh_prod (s : ByteArray) (F : Nat → Nat → Nat → Int) (hF : ∀ i, i < s.size → ∀ p q, p < s.size + 1 → q < s.size + 1 → F (ltr s i) p q = ET s s.size (ltr s i) p q) : ∀ e i f, i + e = s.size → Sh (s.size + 1) i f → ∃ g, prodR (s.size + 1) F s e i f = (mat (s.size + 1) g, true) ∧ Sh (s.size + 1) s.size g := by
 intro e
 induction e with
 | zero =>
  intro i f hi h
  obtain rfl : i = s.size := by omega
  exact ⟨f, rfl, h⟩
 | succ e ih =>
  intro i f hi h
  have h2 := sh_step (by omega) (F (ltr s i)) (hF i (by omega)) h
  rw [prodR, if_pos (sh_okM h2)]
  exact ih (i + 1) _ (by omega) h2
theorem ent_mat (n : Nat) (f : Nat → Nat → Int) (p q : Nat) (hp : p < n) (hq : q < n) : ent (mat n f) p q = f p q := by
 unfold ent mat tab
 simp [List.getD_eq_getElem?_getD, hp, hq]
theorem isSq_mat (n : Nat) (f : Nat → Nat → Int) (h : ∀ p q, p < n → q < n → -1000 ≤ f p q ∧ f p q ≤ 1000) : isSq n (mat n f) = true := by
 unfold isSq
 simp only [Bool.and_eq_true, decide_eq_true_eq, List.all_eq_true]
 refine ⟨mat_length n f, fun r hr => ?_⟩
 unfold mat tab at hr
 obtain ⟨p, hp, rfl⟩ := List.mem_map.1 hr
 have hp := List.mem_range.1 hp
 refine ⟨by simp, fun x hx => ?_⟩
 obtain ⟨q, hq, rfl⟩ := List.mem_map.1 hx
 have hq := List.mem_range.1 hq
 have := h p q hp hq
 unfold okEntry
 simp only [Bool.and_eq_true, decide_eq_true_eq]
 exact this
theorem toRes_zero {d : Int} {s : ByteArray} (h : (toRes d s).2 = 0) : 1 ≤ d ∧ d ≤ 3 ∧ isWd d s s.size 0 = true ∧ s.size ≤ 5 ∧ (toRes d s).1 = tab d.toNat fun a => mat (s.size + 1) (ET s s.size a) := by
 unfold toRes at h ⊢
 by_cases h1 : (decide (1 ≤ d) && decide (d ≤ 3)) = true
 ·rw [if_pos h1] at h ⊢
  simp only [Bool.and_eq_true, decide_eq_true_eq] at h1
  by_cases h2 : isWd d s s.size 0 = true
  ·rw [if_pos h2] at h ⊢
   by_cases h3 : (s.size : Int) > 5
   ·rw [if_pos h3] at h; cases h
   ·rw [if_neg h3] at h ⊢; exact ⟨h1.1, h1.2, h2, by omega, rfl⟩
  ·rw [if_neg h2] at h; cases h
 ·rw [if_neg h1] at h; cases h
/-- The tables of a word are tables, and its product by them is 1 at its end. -/
theorem reads_it {d : Int} {s : ByteArray} (h : (toRes d s).2 = 0) : areTabs d (toRes d s).1 = true ∧ ∃ g, poRes d (toRes d s).1 s = (mat (s.size + 1) g, 0) ∧ g 0 s.size = 1 := by
 obtain ⟨d1, d3, hw, h5, e⟩ := toRes_zero h
 rw [e]
 have hd : dimOf (tab d.toNat fun a => mat (s.size + 1) (ET s s.size a)) = ((s.size + 1 : Nat) : Int) := by
  unfold dimOf
  obtain ⟨m, hm⟩ : ∃ m, d.toNat = m + 1 := ⟨d.toNat - 1, by omega⟩
  rw [hm]
  simp [tab, List.range_succ_eq_map, mat, List.getD_eq_getElem?_getD]
 have hT : areTabs d (tab d.toNat fun a => mat (s.size + 1) (ET s s.size a)) = true := by
  unfold areTabs
  rw [hd]
  simp only [Bool.and_eq_true, decide_eq_true_eq, List.all_eq_true, tab_length]
  refine ⟨⟨⟨⟨d1, d3⟩, by omega⟩, by omega, by omega⟩, fun m hm => ?_⟩
  unfold tab at hm
  obtain ⟨a, ha, rfl⟩ := List.mem_map.1 hm
  rw [Int.toNat_natCast]
  refine isSq_mat _ _ (fun p q hp hq => ?_)
  unfold ET
  split <;> omega
 refine ⟨hT, ?_⟩
 have hF : ∀ i, i < s.size → ∀ p q, p < s.size + 1 → q < s.size + 1 → (fun q => ent ((tab d.toNat fun a => mat (s.size + 1) (ET s s.size a)).getD q [])) (ltr s i) p q = ET s s.size (ltr s i) p q := by
  intro i hi p q hp hq
  have hl := (ltr_lt (d := d.toNat) (by omega) (wd_okW (by omega) hw) i hi).1
  have hg : (tab d.toNat fun a => mat (s.size + 1) (ET s s.size a)).getD (ltr s i) [] = mat (s.size + 1) (ET s s.size (ltr s i)) := by
   rw [List.getD_eq_getElem?_getD, List.getElem?_eq_getElem (by rw [tab_length]; exact hl), Option.getD_some, tab_get]
  show ent ((tab d.toNat fun a => mat (s.size + 1) (ET s s.size a)).getD (ltr s i) []) p q = _
  rw [hg, ent_mat _ _ _ _ hp hq]
 have h0 : Sh (s.size + 1) 0 eye := by
  refine ⟨fun p q hp hq => ?_, fun _ => ?_⟩
  ·unfold eye
   split
   ·exact ⟨fun hne => by omega, by omega, by omega⟩
   ·exact ⟨fun _ => rfl, by omega, by omega⟩
  ·unfold eye; rw [if_pos rfl]
 obtain ⟨g, hg, hs⟩ := sh_prod s (fun q => ent ((tab d.toNat fun a => mat (s.size + 1) (ET s s.size a)).getD q [])) hF s.size 0 eye (by omega) h0
 have hd2 : (dimOf (tab d.toNat fun a => mat (s.size + 1) (ET s s.size a))).toNat = s.size + 1 := by rw [hd]; omega
 refine ⟨g, ?_, hs.2 (by omega)⟩
 have hp := poRes_of hT hw h5 (by rw [hd2, hg])
 rw [hp, hd2, hg]

end Go.Proofs.Ytkbneilobaehkaa.Pure
