/- Plain lemmas: words of a length, and do tables vanish, in both programs. -/
import Derived.Test.YtkbneilobaehkaaPx2
import Derived.Test.YtkbneilobaehkaaPx12
import Derived.Test.YtkbneilobaehkaaPx13
import Derived.Test.YtkbneilobaehkaaFtP
namespace Go.Proofs.Ytkbneilobaehkaa.Pure
open Go.RowKit Go.Proofs.Ytkbneilobaehkaa.P Go.Proofs.YtkbneilobaehkaaW.PrintWords Go.Proofs.YtkbneilobaehkaaW.PrintLast
set_option linter.unusedVariables false
set_option linter.unusedSimpArgs false

def wbyte (c : Nat) : ByteArray := strOfNums [48 + (c : Int)]
theorem wbyte_size (c : Nat) : (wbyte c).size = 1 := by simp [wbyte, strOfNums, ByteArray.size]
/-- A word with each letter behind it. -/
def extFrom (w : ByteArray) : Nat → Nat → List ByteArray
 | 0, _ => []
 | e + 1, c => (w ++ wbyte c) :: extFrom w e (c + 1)
theorem extFrom_length (w : ByteArray) : ∀ e c, (extFrom w e c).length = e := by
 intro e
 induction e with
 | zero => intro c; rfl
 | succ e ih => intro c; simp [extFrom, ih]
def nextW (d : Nat) (l : List ByteArray) : List ByteArray := l.flatMap fun w => extFrom w d 0
theorem nextW_length (d : Nat) (l : List ByteArray) : (nextW d l).length = l.length * d := by
 induction l with
 | nil => simp [nextW]
 | cons a l ih =>
  simp only [nextW, List.flatMap_cons, List.length_append, extFrom_length, List.length_cons] at ih ⊢
  rw [ih, Nat.succ_mul]; omega
def wordsN (d : Nat) : Nat → List ByteArray
 | 0 => [⟨#[]⟩]
 | n + 1 => nextW d (wordsN d n)
theorem wordsN_length (d : Nat) (hd : d ≤ 3) : ∀ n, (wordsN d n).length ≤ 3 ^ n := by
 intro n
 induction n with
 | zero => simp [wordsN]
 | succ n ih =>
  rw [wordsN, nextW_length, Nat.pow_succ]
  exact Nat.mul_le_mul ih hd
theorem wordsN_small (d : Nat) (hd : d ≤ 3) (n : Nat) (hn : n ≤ 5) : (wordsN d n).length ≤ 243 :=
 Nat.le_trans (wordsN_length d hd n) (Nat.le_trans (Nat.pow_le_pow_right (by omega) hn) (by decide))
theorem size_app (s t : ByteArray) : (s ++ t).size = s.size + t.size := by simp
theorem extFrom_size (w x : ByteArray) : ∀ e c, x ∈ extFrom w e c → x.size = w.size + 1 := by
 intro e
 induction e with
 | zero => intro c h; cases h
 | succ e ih =>
  intro c h
  rcases List.mem_cons.1 h with h | h
  ·rw [h, size_app, wbyte_size]
  ·exact ih (c + 1) h
theorem wordsN_size (d : Nat) : ∀ n, ∀ x ∈ wordsN d n, x.size = n := by
 intro n
 induction n with
 | zero => intro x hx; simp [wordsN] at hx; subst hx; rfl
 | succ n ih =>
  intro x hx
  simp only [wordsN, nextW, List.mem_flatMap] at hx
  obtain ⟨w, hw, hx⟩ := hx
  rw [extFrom_size w x d 0 hx, ih w hw]
theorem rdOf_nat (l : List ByteArray) (i : Nat) (h : i < l.length) : rdOf ByteArray.empty l (i : Int) = l[i] := by simp [rdOf, List.getD_eq_getElem?_getD, h]
theorem impl_words_l2 (d : Nat) (hd : d ≤ 3) (w : ByteArray) (hw : w.size ≤ 100) (x11 x12 : Int) (x14 : List ByteArray) (x15 x16 : Int) : ∀ e k c (x6 : List ByteArray), c + e = d → x6.length + e ≤ 1000000 →
 impl_words.l2 (k + e + 1) (d : Int) x6 w x11 x12 x14 x15 x16 (d : Int) (c : Int) = impl_words.l1 k (d : Int) (x6 ++ extFrom w e c) x11 x12 x14 x15 (wrap64 (x16 + 1)) := by
 intro e
 induction e with
 | zero =>
  intro k c x6 h hx
  rw [show k + 0 + 1 = k + 1 from rfl, impl_words.l2, if_neg (by omega), extFrom, List.append_nil]
 | succ e ih =>
  intro k c x6 h hx
  have hc : strOfNums [(48 + ((c : Int) % 256)) % 256] = wbyte c := by unfold wbyte; congr 2; omega
  rw [show k + (e + 1) + 1 = (k + e + 1) + 1 from by omega, impl_words.l2, if_pos (by omega), impl_letter.f, Option.bind_some, hc, wbyte_size, if_pos (by omega), if_pos (by omega), wrap_nat _ (by omega), ih k (c + 1) _ (by omega) (by rw [List.length_append]; simp; omega), extFrom, List.append_assoc]
  rfl
theorem impl_words_l1 (d : Nat) (hd : d ≤ 3) (x11 x12 : Int) (l : List ByteArray) (hl : l.length ≤ 1000) (hs : ∀ w ∈ l, w.size ≤ 100) : ∀ e k i (x6 : List ByteArray), i + e = l.length → x6.length + e * 3 ≤ 100000 →
 impl_words.l1 (k + e * (d + 2) + 1) (d : Int) x6 x11 x12 l (l.length : Int) (i : Int) = impl_words.l0 k (d : Int) (x6 ++ nextW d (l.drop i)) x11 (wrap64 (x12 + 1)) := by
 intro e
 induction e with
 | zero =>
  intro k i x6 h hx
  rw [show k + 0 * (d + 2) + 1 = k + 1 from by omega, impl_words.l1, if_neg (by omega), List.drop_of_length_le (by omega), nextW, List.flatMap_nil, List.append_nil]
 | succ e ih =>
  intro k i x6 h hx
  have hi : i < l.length := by omega
  rw [show k + (e + 1) * (d + 2) + 1 = ((k + e * (d + 2) + 1) + d + 1) + 1 from by rw [Nat.succ_mul]; omega, impl_words.l1, if_pos (by omega), if_pos (by omega), if_pos (by omega), rdOf_nat l i hi]
  have := impl_words_l2 d hd l[i] (hs _ (List.getElem_mem hi)) x11 x12 l (l.length : Int) (i : Int) d (k + e * (d + 2) + 1) 0 x6 (by omega) (by omega)
  rw [show impl_words.l2 ((k + e * (d + 2) + 1) + d + 1) (d : Int) x6 l[i] x11 x12 l (l.length : Int) (i : Int) (d : Int) 0 = _ from this, wrap_nat _ (by omega), ih k (i + 1) _ (by omega) (by rw [List.length_append, extFrom_length]; omega), List.drop_eq_getElem_cons hi, nextW, nextW, List.flatMap_cons, List.append_assoc]
set_option maxRecDepth 20000 in
theorem fuel_step (e q P : Nat) (h1 : (e + 1) * 2000 + 1 ≤ (q + P + 1) + 1) (h2 : P ≤ 1215) : e * 2000 + 1 ≤ q := by
 have : (e + 1) * 2000 = e * 2000 + 2000 := Nat.succ_mul e 2000
 omega
theorem impl_words_l0 (d : Nat) (hd : d ≤ 3) (n : Nat) (hn : n ≤ 5) : ∀ e k m, m + e = n → e * 2000 + 1 ≤ k →
 impl_words.l0 k (d : Int) (wordsN d m) (n : Int) (m : Int) = some (wordsN d n) := by
 intro e
 induction e with
 | zero =>
  intro k m h hk
  obtain ⟨k, rfl⟩ : ∃ q, k = q + 1 := ⟨k - 1, by omega⟩
  obtain rfl : m = n := by omega
  rw [impl_words.l0, if_neg (by omega)]
 | succ e ih =>
  intro k m h hk
  have hs := wordsN_small d hd m (by omega)
  have hb : (wordsN d m).length * (d + 2) ≤ 243 * 5 := Nat.mul_le_mul hs (by omega)
  obtain ⟨k, rfl⟩ : ∃ q, k = (q + (wordsN d m).length * (d + 2) + 1) + 1 := ⟨k - (wordsN d m).length * (d + 2) - 2, by omega⟩
  have hk2 : e * 2000 + 1 ≤ k := fuel_step e k _ hk (Nat.le_trans hb (by decide))
  rw [impl_words.l0, if_pos (by omega)]
  have := impl_words_l1 d hd (n : Int) (m : Int) (wordsN d m) (by omega) (fun w hw => by rw [wordsN_size d m w hw]; omega) (wordsN d m).length k 0 [] (by omega) (by simp; omega)
  rw [show impl_words.l1 (k + (wordsN d m).length * (d + 2) + 1) (d : Int) [] (n : Int) (m : Int) (wordsN d m) ((wordsN d m).length : Int) 0 = _ from this, wrap_nat _ (by omega), List.drop_zero, List.nil_append]
  exact ih k (m + 1) (by omega) hk2
theorem impl_words_f (k d n : Nat) (hd : d ≤ 3) (hn : n ≤ 5) (hk : 20000 ≤ k) : impl_words.f k (d : Int) (n : Int) = some (wordsN d n) :=
 impl_words_l0 d hd n hn n k 0 (by omega) (by omega)
theorem spec_l01Words_l2 (d : Nat) (hd : d ≤ 3) (x1 : Int) (l : List ByteArray) (i : Nat) (hi : i < l.length) (hw : l[i].size ≤ 100) : ∀ e k c (x6 : List ByteArray), c + e = d → x6.length + e ≤ 1000000 → 
 spec_l01Words.l2 (k + e + 1) (d : Int) x1 l x6 (i : Int) (c : Int) = spec_l01Words.l1 k (d : Int) x1 l (x6 ++ extFrom l[i] e c) (wrap64 ((i : Int) + 1)) := by
 intro e
 induction e with
 | zero =>
  intro k c x6 h hx
  rw [show k + 0 + 1 = k + 1 from rfl, spec_l01Words.l2, if_neg (by omega), extFrom, List.append_nil]
 | succ e ih =>
  intro k c x6 h hx
  have hc : strOfNums [(wrap64 (48 + (c : Int))) % 256] = wbyte c := by unfold wbyte; rw [wrap_of (48 + (c : Int)) (by omega) (by omega)]; congr 2; omega
  rw [show k + (e + 1) + 1 = (k + e + 1) + 1 from by omega, spec_l01Words.l2, if_pos (by omega), if_pos (by omega), if_pos (by omega), Option.bind_some, hc, rdOf_nat l i hi, wbyte_size, if_pos (by omega), if_pos (by omega), wrap_nat _ (by omega), ih k (c + 1) _ (by omega) (by rw [List.length_append]; simp; omega), extFrom, List.append_assoc]
  rfl
theorem spec_l01Words_l1 (d : Nat) (hd : d ≤ 3) (x1 : Int) (l : List ByteArray) (hl : l.length ≤ 1000) (hs : ∀ w ∈ l, w.size ≤ 100) : ∀ e k i (x6 : List ByteArray), i + e = l.length → x6.length + e * 3 ≤ 100000 →
 spec_l01Words.l1 (k + e * (d + 2) + 1) (d : Int) x1 l x6 (i : Int) = spec_l01Words.l0 k (d : Int) (wrap64 (x1 - 1)) (x6 ++ nextW d (l.drop i)) := by
 intro e
 induction e with
 | zero =>
  intro k i x6 h hx
  rw [show k + 0 * (d + 2) + 1 = k + 1 from by omega, spec_l01Words.l1, if_neg (by omega), List.drop_of_length_le (by omega), nextW, List.flatMap_nil, List.append_nil]
 | succ e ih =>
  intro k i x6 h hx
  have hi : i < l.length := by omega
  rw [show k + (e + 1) * (d + 2) + 1 = ((k + e * (d + 2) + 1) + d + 1) + 1 from by rw [Nat.succ_mul]; omega, spec_l01Words.l1, if_pos (by omega)]
  have := spec_l01Words_l2 d hd x1 l i hi (hs _ (List.getElem_mem hi)) d (k + e * (d + 2) + 1) 0 x6 (by omega) (by omega)
  rw [show spec_l01Words.l2 ((k + e * (d + 2) + 1) + d + 1) (d : Int) x1 l x6 (i : Int) 0 = _ from this, wrap_nat _ (by omega), ih k (i + 1) _ (by omega) (by rw [List.length_append, extFrom_length]; omega), List.drop_eq_getElem_cons hi, nextW, nextW, List.flatMap_cons, List.append_assoc]
theorem spec_l01Words_l0 (d : Nat) (hd : d ≤ 3) (n : Nat) (hn : n ≤ 5) : ∀ e k m, m + e = n → e * 2000 + 1 ≤ k →
 spec_l01Words.l0 k (d : Int) (e : Int) (wordsN d m) = some (wordsN d n) := by
 intro e
 induction e with
 | zero =>
  intro k m h hk
  obtain ⟨k, rfl⟩ : ∃ q, k = q + 1 := ⟨k - 1, by omega⟩
  obtain rfl : m = n := by omega
  rw [spec_l01Words.l0, if_neg (by omega)]
 | succ e ih =>
  intro k m h hk
  have hs := wordsN_small d hd m (by omega)
  have hb : (wordsN d m).length * (d + 2) ≤ 243 * 5 := Nat.mul_le_mul hs (by omega)
  obtain ⟨k, rfl⟩ : ∃ q, k = (q + (wordsN d m).length * (d + 2) + 1) + 1 := ⟨k - (wordsN d m).length * (d + 2) - 2, by omega⟩
  have hk2 : e * 2000 + 1 ≤ k := fuel_step e k _ hk (Nat.le_trans hb (by decide))
  rw [spec_l01Words.l0, if_pos (by omega)]
  have := spec_l01Words_l1 d hd ((e + 1 : Nat) : Int) (wordsN d m) (by omega) (fun w hw => by rw [wordsN_size d m w hw]; omega) (wordsN d m).length k 0 [] (by omega) (by simp; omega)
  rw [show spec_l01Words.l1 (k + (wordsN d m).length * (d + 2) + 1) (d : Int) ((e + 1 : Nat) : Int) (wordsN d m) [] 0 = _ from this, wrap_of (((e + 1 : Nat) : Int) - 1) (by omega) (by omega), List.drop_zero, List.nil_append, show (((e + 1 : Nat) : Int) - 1) = (e : Int) from by omega]
  exact ih k (m + 1) (by omega) hk2
theorem spec_l01Words_f (k d n : Nat) (hd : d ≤ 3) (hn : n ≤ 5) (hk : 20000 ≤ k) : spec_l01Words.f k (d : Int) (n : Int) = some (wordsN d n) :=
 spec_l01Words_l0 d hd n hn n k 0 (by omega) (by omega)
/-! The letters of words. -/
theorem bt_left (s t : ByteArray) (i : Nat) (h : i < s.size) : bt (s ++ t) (i : Int) = bt s i := by
 unfold bt
 rw [dif_pos (by rw [size_app]; simp; omega), dif_pos (by simpa using h)]
 simp [ByteArray.getElem_append_left, h]
theorem bt_right (s : ByteArray) (c : Nat) (hc : c < 200) : bt (s ++ wbyte c) ((s.size : Nat) : Int) = 48 + c := by
 unfold bt
 rw [dif_pos (by rw [size_app, wbyte_size]; simp)]
 have : ((s ++ wbyte c)[((s.size : Nat) : Int).toNat]'(by rw [size_app, wbyte_size]; simp)) = UInt8.ofNat (48 + c) := by
  simp only [Int.toNat_natCast]
  rw [ByteArray.getElem_append_right (Nat.le_refl _)]
  have hc2 : (48 + (c : Int)).toNat = 48 + c := by omega
  simp only [wbyte, strOfNums, List.map_cons, List.map_nil, hc2, Nat.sub_self]
  rfl
 rw [this]
 simp only [UInt8.toNat_ofNat']
 omega
theorem extFrom_ok (d : Nat) (hd : d ≤ 3) (w x : ByteArray) (hw : okW d w) : ∀ e c, c + e = d → x ∈ extFrom w e c → okW d x := by
 intro e
 induction e with
 | zero => intro c _ h; cases h
 | succ e ih =>
  intro c hc h
  rcases List.mem_cons.1 h with h | h
  ·subst h
   intro i hi
   rw [size_app, wbyte_size] at hi
   by_cases e1 : i < w.size
   ·rw [bt_left w _ i e1]; exact hw i e1
   ·obtain rfl : i = w.size := by omega
    rw [bt_right w c (by omega)]; omega
  ·exact ih (c + 1) (by omega) h
theorem wordsN_ok (d : Nat) (hd : d ≤ 3) : ∀ n, ∀ x ∈ wordsN d n, okW d x := by
 intro n
 induction n with
 | zero => intro x hx i hi; simp [wordsN] at hx; subst hx; exact absurd hi (by simp [ByteArray.size])
 | succ n ih =>
  intro x hx
  simp only [wordsN, nextW, List.mem_flatMap] at hx
  obtain ⟨w, hw, hx⟩ := hx
  exact extFrom_ok d hd w x (ih w hw) d 0 (by omega) hx

def zeroL (m : List (List Int)) : Bool := m.all fun r => r.all fun x => decide (x = 0)
theorem zeroL_mat (n : Nat) (g : Nat → Nat → Int) : zeroL (mat n g) = zeroM n g := by
 unfold zeroL mat zeroM
 rw [all_tab]
 congr 1
 funext i
 rw [all_tab]
theorem isNothing_mat (n : Nat) (f : Nat → Nat → Int) : impl_isNothing.f (mat n f) = some (zeroM n f) := by
 unfold impl_isNothing.f zeroM mat
 rw [not_any_not, all_tab]
 congr 2
 funext i
 rw [not_any_not, all_tab]
 congr 1
 funext j
 unfold Hand.upToB
 rw [Bool.eq_iff_iff]
 simp [wrap64]
 omega
theorem isNothing_zeroL (n : Nat) (g : Nat → Nat → Int) : impl_isNothing.f (mat n g) = some (zeroL (mat n g)) := by rw [isNothing_mat, zeroL_mat]
def vanR (n : Nat) (F : Nat → Nat → Nat → Int) : List ByteArray → Bool → Bool × Int
 | [], z => (z, 0)
 | w :: ws, z => if (prodR n F w w.size 0 eye).2 = true then vanR n F ws (z && zeroL (prodR n F w w.size 0 eye).1) else (false, 3)
theorem sva_l2 (n : Nat) (hn : n ≤ 6) (l : List (List (List Int))) (ws : List ByteArray) (x10 : Int) (g : Nat → Nat → Int) (i : Nat) (hi : i < n) : ∀ e k j z, j + e = n →
 spec_VanishAt.l2 (k + e + 1) l ws z x10 (mat n g) (i : Int) (j : Int) = spec_VanishAt.l1 k l ws (z && allF (fun q => decide (g i q = 0)) e j) x10 (mat n g) (wrap64 ((i : Int) + 1)) := by
 intro e
 induction e with
 | zero =>
  intro k j z h
  rw [show k + 0 + 1 = k + 1 from rfl, spec_VanishAt.l2, if_neg (by rw [mat_length]; omega), allF, Bool.and_true]
 | succ e ih =>
  intro k j z h
  rw [show k + (e + 1) + 1 = (k + e + 1) + 1 from by omega, spec_VanishAt.l2, if_pos (by rw [mat_length]; omega), wrap_nat _ (by omega)]
  cases z with
  | true =>
   rw [if_pos rfl, if_pos (by omega), if_pos (by rw [mat_length]; omega), if_pos (by omega), rdR_mat n g i hi, if_pos (by rw [tab_length]; omega), rd_tab n (g i) j (by omega), ih k (j + 1) _ (by omega), allF, Bool.true_and]
   congr 2
  | false =>
   rw [if_neg (by simp), ih k (j + 1) _ (by omega), Bool.false_and, Bool.false_and]
theorem sva_l1 (n : Nat) (hn : n ≤ 6) (l : List (List (List Int))) (ws : List ByteArray) (x10 : Int) (g : Nat → Nat → Int) : ∀ e k i z, i + e = n →
 spec_VanishAt.l1 (k + e * (n + 2) + 1) l ws z x10 (mat n g) (i : Int) = spec_VanishAt.l0 k l ws (z && allF (fun p => allF (fun q => decide (g p q = 0)) n 0) e i) (wrap64 (x10 + 1)) := by
 intro e
 induction e with
 | zero =>
  intro k i z h
  rw [show k + 0 * (n + 2) + 1 = k + 1 from by omega, spec_VanishAt.l1, if_neg (by rw [mat_length]; omega), allF, Bool.and_true]
 | succ e ih =>
  intro k i z h
  rw [show k + (e + 1) * (n + 2) + 1 = ((k + e * (n + 2) + 1) + n + 1) + 1 from by rw [Nat.succ_mul]; omega, spec_VanishAt.l1, if_pos (by rw [mat_length]; omega)]
  have := sva_l2 n hn l ws x10 g i (by omega) n (k + e * (n + 2) + 1) 0 z (by omega)
  rw [show spec_VanishAt.l2 ((k + e * (n + 2) + 1) + n + 1) l ws z x10 (mat n g) (i : Int) 0 = _ from this, wrap_nat _ (by omega), ih k (i + 1) _ (by omega), allF, Bool.and_assoc]
theorem sva_l0 {n : Nat} {l : List (List (List Int))} {F : Nat → Nat → Nat → Int} (T : Tabs n l F) (h0 : 0 < l.length) (ws : List ByteArray) (hws : ∀ w ∈ ws, w.size ≤ 5 ∧ okW l.length w) (hl : ws.length ≤ 100000) : ∀ e k m z, m + e = ws.length → 600 + e * 60 ≤ k →
 spec_VanishAt.l0 k l ws z (m : Int) = some (vanR n F (ws.drop m) z) := by
 intro e
 induction e with
 | zero =>
  intro k m z h hk
  obtain ⟨k, rfl⟩ : ∃ q, k = q + 1 := ⟨k - 1, by omega⟩
  rw [spec_VanishAt.l0, if_neg (by omega), List.drop_of_length_le (by omega), vanR]
 | succ e ih =>
  intro k m z h hk
  have hn := T.dim
  have hm : n * (n + 2) ≤ 6 * 8 := Nat.mul_le_mul hn (by omega)
  obtain ⟨k, rfl⟩ : ∃ q, k = (q + n * (n + 2) + 1) + 1 := ⟨k - n * (n + 2) - 2, by omega⟩
  have hml : m < ws.length := by omega
  obtain ⟨w1, w2⟩ := hws ws[m] (List.getElem_mem hml)
  rw [spec_VanishAt.l0, if_pos (by omega), if_pos (by omega), rdOf_nat ws m hml, spec_product_f T h0 ws[m] w2 (by omega) _ (by omega), Option.bind_some, List.drop_eq_getElem_cons hml, vanR]
  rcases prodR_form n F ws[m] ws[m].size 0 eye with ⟨g, hg⟩ | hg
  ·rw [hg, if_pos rfl, if_pos rfl]
   have := sva_l1 n hn l ws (m : Int) g n k 0 z (by omega)
   rw [show spec_VanishAt.l1 (k + n * (n + 2) + 1) l ws z (m : Int) (mat n g) 0 = _ from this, wrap_nat _ (by omega), zeroM_allF, ← zeroL_mat]
   exact ih k (m + 1) _ (by omega) (by omega)
  ·rw [hg, if_neg (by simp), if_neg (by simp)]
theorem iva_l0 {n : Nat} {l : List (List (List Int))} {F : Nat → Nat → Nat → Int} (T : Tabs n l F) (h0 : 0 < l.length) (ws : List ByteArray) (hws : ∀ w ∈ ws, w.size ≤ 5 ∧ okW l.length w) (hl : ws.length ≤ 100000) : ∀ e k m z, m + e = ws.length → 600 + e ≤ k →
 impl_VanishAt.l0 k l z ws (ws.length : Int) (m : Int) = some (vanR n F (ws.drop m) z) := by
 intro e
 induction e with
 | zero =>
  intro k m z h hk
  obtain ⟨k, rfl⟩ : ∃ q, k = q + 1 := ⟨k - 1, by omega⟩
  rw [impl_VanishAt.l0, if_neg (by omega), List.drop_of_length_le (by omega), vanR]
 | succ e ih =>
  intro k m z h hk
  obtain ⟨k, rfl⟩ : ∃ q, k = q + 1 := ⟨k - 1, by omega⟩
  have hml : m < ws.length := by omega
  obtain ⟨w1, w2⟩ := hws ws[m] (List.getElem_mem hml)
  rw [impl_VanishAt.l0, if_pos (by omega), if_pos (by omega), if_pos (by omega), rdOf_nat ws m hml, impl_product_f T h0 ws[m] w2 (by omega) _ (by omega), Option.bind_some, List.drop_eq_getElem_cons hml, vanR, wrap_nat _ (by omega)]
  rcases prodR_form n F ws[m] ws[m].size 0 eye with ⟨g, hg⟩ | hg
  ·rw [hg, if_pos rfl, if_pos rfl]
   cases z with
   | true => rw [if_pos rfl, isNothing_zeroL, Option.bind_some, Bool.true_and]; exact ih k (m + 1) _ (by omega) (by omega)
   | false => rw [if_neg (by simp), Bool.false_and]; exact ih k (m + 1) _ (by omega) (by omega)
  ·rw [hg, if_neg (by simp), if_neg (by simp)]
def vanRes (d : Int) (l : List (List (List Int))) (n : Int) : Bool × Int :=
 if areTabs d l = true then (if (decide (0 ≤ n) && decide (n ≤ 4)) = true then vanR (dimOf l).toNat (fun q => ent (l.getD q [])) (wordsN d.toNat (n.toNat + 1)) true else (false, 2)) else (false, 1)
theorem words_ok (d n : Nat) (hd : d ≤ 3) (hn : n ≤ 5) (L : Nat) (hL : L = d) : (∀ w ∈ wordsN d n, w.size ≤ 5 ∧ okW L w) ∧ (wordsN d n).length ≤ 243 := by
 subst hL
 exact ⟨fun w hw => ⟨by rw [wordsN_size _ n w hw]; omega, wordsN_ok _ hd n w hw⟩, wordsN_small _ hd n hn⟩
theorem spec_VanishAt_f (k : Nat) (d : Int) (l : List (List (List Int))) (n : Int) (hk : 40000 ≤ k) (hl : l.length ≤ 4000000) : spec_VanishAt.f k d l n = some (vanRes d l n) := by
 unfold spec_VanishAt.f vanRes
 rw [spec_l08Are_f k d l (by omega) hl, Option.bind_some, spec_l01In_f]
 by_cases h : areTabs d l = true
 ·obtain ⟨d1, d3, dl⟩ := areTabs_d h
  rw [if_pos h, if_pos h, Option.bind_some]
  by_cases hn : (decide (0 ≤ n) && decide (n ≤ 4)) = true
  ·rw [if_pos hn, if_pos hn]
   simp only [Bool.and_eq_true, decide_eq_true_eq] at hn
   have hd : (d.toNat : Int) = d := by omega
   have hnn : wrap64 (n + 1) = ((n.toNat + 1 : Nat) : Int) := by rw [wrap_of (n + 1) (by omega) (by omega)]; omega
   have W := spec_l01Words_f k d.toNat (n.toNat + 1) (by omega) (by omega) (by omega)
   rw [hd] at W
   obtain ⟨o1, o2⟩ := words_ok d.toNat (n.toNat + 1) (by omega) (by omega) l.length (by omega)
   rw [hnn, W, Option.bind_some]
   exact sva_l0 (areTabs_tabs h) (by omega) (wordsN d.toNat (n.toNat + 1)) o1 (by omega) (wordsN d.toNat (n.toNat + 1)).length k 0 true (by omega) (by omega)
  ·rw [if_neg hn, if_neg hn]
 ·rw [if_neg h, if_neg h]
theorem impl_VanishAt_f (k : Nat) (d : Int) (l : List (List (List Int))) (n : Int) (hk : 40000 ≤ k) : impl_VanishAt.f k d l n = some (vanRes d l n) := by
 unfold impl_VanishAt.f vanRes
 have hi : impl_within.f n 0 4 = some (decide (0 ≤ n) && decide (n ≤ 4)) := by
  unfold impl_within.f
  by_cases h : 0 ≤ n <;> simp [h]
 rw [impl_AreTables_f d l, Option.bind_some, hi]
 by_cases h : areTabs d l = true
 ·obtain ⟨d1, d3, dl⟩ := areTabs_d h
  rw [if_pos h, if_pos h, Option.bind_some]
  by_cases hn : (decide (0 ≤ n) && decide (n ≤ 4)) = true
  ·rw [if_pos hn, if_pos hn]
   simp only [Bool.and_eq_true, decide_eq_true_eq] at hn
   have hd : (d.toNat : Int) = d := by omega
   have hnn : wrap64 (n + 1) = ((n.toNat + 1 : Nat) : Int) := by rw [wrap_of (n + 1) (by omega) (by omega)]; omega
   have W := impl_words_f k d.toNat (n.toNat + 1) (by omega) (by omega) (by omega)
   rw [hd] at W
   obtain ⟨o1, o2⟩ := words_ok d.toNat (n.toNat + 1) (by omega) (by omega) l.length (by omega)
   rw [hnn, W, Option.bind_some]
   exact iva_l0 (areTabs_tabs h) (by omega) (wordsN d.toNat (n.toNat + 1)) o1 (by omega) (wordsN d.toNat (n.toNat + 1)).length k 0 true (by omega) (by omega)
  ·rw [if_neg hn, if_neg hn]
 ·rw [if_neg h, if_neg h]

end Go.Proofs.Ytkbneilobaehkaa.Pure
