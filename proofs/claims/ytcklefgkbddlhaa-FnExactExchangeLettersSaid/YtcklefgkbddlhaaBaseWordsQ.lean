/- Plain lemmas on all words of a length, as both programs list them. -/
import Derived.Test.YtcklefgkbddlhaaPx12
import Derived.Test.YtcklefgkbddlhaaBaseOkWM
namespace Go.Proofs.Ytcklefgkbddlhaa.Pure
open Go.RowKit Go.Proofs.Ytcklefgkbddlhaa.P Go.Proofs.YtcklefgkbddlhaaW.PrintWords Go.Proofs.YtcklefgkbddlhaaW.PrintLast
set_option linter.unusedVariables false
set_option linter.unusedSimpArgs false

def wbyte (c : Nat) : ByteArray := strOfNums [48 + (c : Int)]
theorem wbyte_size (c : Nat) : (wbyte c).size = 1 := by simp [wbyte, strOfNums, ByteArray.size]
/-- A word with each letter behind it. -/
def extFrom (w : ByteArray) : Nat → Nat → List ByteArray
  | 0, _ => []
  | e + 1, c => (w ++ wbyte c) :: extFrom w e (c + 1)
theorem extFrom_length (w : ByteArray) : ∀ e c, (extFrom w e c).length = e := by
  intro e
  induction e with
  | zero => intro c; rfl
  | succ e ih => intro c; simp [extFrom, ih]
def nextW (d : Nat) (l : List ByteArray) : List ByteArray := l.flatMap fun w => extFrom w d 0
theorem nextW_length (d : Nat) (l : List ByteArray) : (nextW d l).length = l.length * d := by
  induction l with
  | nil => simp [nextW]
  | cons a l ih =>
    simp only [nextW, List.flatMap_cons, List.length_append, extFrom_length, List.length_cons] at ih ⊢
    rw [ih, Nat.succ_mul]; omega
def wordsN (d : Nat) : Nat → List ByteArray
  | 0 => [⟨#[]⟩]
  | n + 1 => nextW d (wordsN d n)
theorem wordsN_length (d : Nat) (hd : d ≤ 3) : ∀ n, (wordsN d n).length ≤ 3 ^ n := by
  intro n
  induction n with
  | zero => simp [wordsN]
  | succ n ih =>
    rw [wordsN, nextW_length, Nat.pow_succ]
    exact Nat.mul_le_mul ih hd
theorem wordsN_small (d : Nat) (hd : d ≤ 3) (n : Nat) (hn : n ≤ 5) : (wordsN d n).length ≤ 243 :=
  Nat.le_trans (wordsN_length d hd n) (Nat.le_trans (Nat.pow_le_pow_right (by omega) hn) (by decide))
theorem size_app (s t : ByteArray) : (s ++ t).size = s.size + t.size := by simp
theorem extFrom_size (w x : ByteArray) : ∀ e c, x ∈ extFrom w e c → x.size = w.size + 1 := by
  intro e
  induction e with
  | zero => intro c h; cases h
  | succ e ih =>
    intro c h
    rcases List.mem_cons.1 h with h | h
    · rw [h, size_app, wbyte_size]
    · exact ih (c + 1) h
theorem wordsN_size (d : Nat) : ∀ n, ∀ x ∈ wordsN d n, x.size = n := by
  intro n
  induction n with
  | zero => intro x hx; simp [wordsN] at hx; subst hx; rfl
  | succ n ih =>
    intro x hx
    simp only [wordsN, nextW, List.mem_flatMap] at hx
    obtain ⟨w, hw, hx⟩ := hx
    rw [extFrom_size w x d 0 hx, ih w hw]
theorem rdOf_nat (l : List ByteArray) (i : Nat) (h : i < l.length) : rdOf ByteArray.empty l (i : Int) = l[i] := by simp [rdOf, List.getD_eq_getElem?_getD, h]
theorem impl_words_l2 (d : Nat) (hd : d ≤ 3) (w : ByteArray) (hw : w.size ≤ 100) (x11 x12 : Int) (x14 : List ByteArray) (x15 x16 : Int) : ∀ e k c (x6 : List ByteArray), c + e = d → x6.length + e ≤ 1000000 →
    impl_words.l2 (k + e + 1) (d : Int) x6 w x11 x12 x14 x15 x16 (d : Int) (c : Int) = impl_words.l1 k (d : Int) (x6 ++ extFrom w e c) x11 x12 x14 x15 (wrap64 (x16 + 1)) := by
  intro e
  induction e with
  | zero =>
    intro k c x6 h hx
    rw [show k + 0 + 1 = k + 1 from rfl, impl_words.l2, if_neg (by omega), extFrom, List.append_nil]
  | succ e ih =>
    intro k c x6 h hx
    have hc : strOfNums [(48 + ((c : Int) % 256)) % 256] = wbyte c := by unfold wbyte; congr 2; omega
    rw [show k + (e + 1) + 1 = (k + e + 1) + 1 from by omega, impl_words.l2, if_pos (by omega), impl_letter.f, Option.bind_some, hc, wbyte_size, if_pos (by omega), if_pos (by omega), wrap_nat _ (by omega), ih k (c + 1) _ (by omega) (by rw [List.length_append]; simp; omega), extFrom, List.append_assoc]
    rfl
theorem impl_words_l1 (d : Nat) (hd : d ≤ 3) (x11 x12 : Int) (l : List ByteArray) (hl : l.length ≤ 1000) (hs : ∀ w ∈ l, w.size ≤ 100) : ∀ e k i (x6 : List ByteArray), i + e = l.length → x6.length + e * 3 ≤ 100000 →
    impl_words.l1 (k + e * (d + 2) + 1) (d : Int) x6 x11 x12 l (l.length : Int) (i : Int) = impl_words.l0 k (d : Int) (x6 ++ nextW d (l.drop i)) x11 (wrap64 (x12 + 1)) := by
  intro e
  induction e with
  | zero =>
    intro k i x6 h hx
    rw [show k + 0 * (d + 2) + 1 = k + 1 from by omega, impl_words.l1, if_neg (by omega), List.drop_of_length_le (by omega), nextW, List.flatMap_nil, List.append_nil]
  | succ e ih =>
    intro k i x6 h hx
    have hi : i < l.length := by omega
    rw [show k + (e + 1) * (d + 2) + 1 = ((k + e * (d + 2) + 1) + d + 1) + 1 from by rw [Nat.succ_mul]; omega, impl_words.l1, if_pos (by omega), if_pos (by omega), if_pos (by omega), rdOf_nat l i hi]
    have := impl_words_l2 d hd l[i] (hs _ (List.getElem_mem hi)) x11 x12 l (l.length : Int) (i : Int) d (k + e * (d + 2) + 1) 0 x6 (by omega) (by omega)
    rw [show impl_words.l2 ((k + e * (d + 2) + 1) + d + 1) (d : Int) x6 l[i] x11 x12 l (l.length : Int) (i : Int) (d : Int) 0 = _ from this, wrap_nat _ (by omega), ih k (i + 1) _ (by omega) (by rw [List.length_append, extFrom_length]; omega), List.drop_eq_getElem_cons hi, nextW, nextW, List.flatMap_cons, List.append_assoc]
set_option maxRecDepth 20000 in
theorem fuel_step (e q P : Nat) (h1 : (e + 1) * 2000 + 1 ≤ (q + P + 1) + 1) (h2 : P ≤ 1215) : e * 2000 + 1 ≤ q := by
  have : (e + 1) * 2000 = e * 2000 + 2000 := Nat.succ_mul e 2000
  omega
theorem impl_words_l0 (d : Nat) (hd : d ≤ 3) (n : Nat) (hn : n ≤ 5) : ∀ e k m, m + e = n → e * 2000 + 1 ≤ k →
    impl_words.l0 k (d : Int) (wordsN d m) (n : Int) (m : Int) = some (wordsN d n) := by
  intro e
  induction e with
  | zero =>
    intro k m h hk
    obtain ⟨k, rfl⟩ : ∃ q, k = q + 1 := ⟨k - 1, by omega⟩
    obtain rfl : m = n := by omega
    rw [impl_words.l0, if_neg (by omega)]
  | succ e ih =>
    intro k m h hk
    have hs := wordsN_small d hd m (by omega)
    have hb : (wordsN d m).length * (d + 2) ≤ 243 * 5 := Nat.mul_le_mul hs (by omega)
    obtain ⟨k, rfl⟩ : ∃ q, k = (q + (wordsN d m).length * (d + 2) + 1) + 1 := ⟨k - (wordsN d m).length * (d + 2) - 2, by omega⟩
    have hk2 : e * 2000 + 1 ≤ k := fuel_step e k _ hk (Nat.le_trans hb (by decide))
    rw [impl_words.l0, if_pos (by omega)]
    have := impl_words_l1 d hd (n : Int) (m : Int) (wordsN d m) (by omega) (fun w hw => by rw [wordsN_size d m w hw]; omega) (wordsN d m).length k 0 [] (by omega) (by simp; omega)
    rw [show impl_words.l1 (k + (wordsN d m).length * (d + 2) + 1) (d : Int) [] (n : Int) (m : Int) (wordsN d m) ((wordsN d m).length : Int) 0 = _ from this, wrap_nat _ (by omega), List.drop_zero, List.nil_append]
    exact ih k (m + 1) (by omega) hk2
theorem impl_words_f (k d n : Nat) (hd : d ≤ 3) (hn : n ≤ 5) (hk : 20000 ≤ k) : impl_words.f k (d : Int) (n : Int) = some (wordsN d n) :=
  impl_words_l0 d hd n hn n k 0 (by omega) (by omega)
theorem bt_left (s t : ByteArray) (i : Nat) (h : i < s.size) : bt (s ++ t) (i : Int) = bt s i := by
  unfold bt
  rw [dif_pos (by rw [size_app]; simp; omega), dif_pos (by simpa using h)]
  simp [ByteArray.getElem_append_left, h]
theorem bt_right (s : ByteArray) (c : Nat) (hc : c < 200) : bt (s ++ wbyte c) ((s.size : Nat) : Int) = 48 + c := by
  unfold bt
  rw [dif_pos (by rw [size_app, wbyte_size]; simp)]
  have : ((s ++ wbyte c)[((s.size : Nat) : Int).toNat]'(by rw [size_app, wbyte_size]; simp)) = UInt8.ofNat (48 + c) := by
    simp only [Int.toNat_natCast]
    rw [ByteArray.getElem_append_right (Nat.le_refl _)]
    have hc2 : (48 + (c : Int)).toNat = 48 + c := by omega
    simp only [wbyte, strOfNums, List.map_cons, List.map_nil, hc2, Nat.sub_self]
    rfl
  rw [this]
  simp only [UInt8.toNat_ofNat']
  omega
theorem extFrom_ok (d : Nat) (hd : d ≤ 3) (w x : ByteArray) (hw : okW d w) : ∀ e c, c + e = d → x ∈ extFrom w e c → okW d x := by
  intro e
  induction e with
  | zero => intro c _ h; cases h
  | succ e ih =>
    intro c hc h
    rcases List.mem_cons.1 h with h | h
    · subst h
      intro i hi
      rw [size_app, wbyte_size] at hi
      by_cases e1 : i < w.size
      · rw [bt_left w _ i e1]; exact hw i e1
      · obtain rfl : i = w.size := by omega
        rw [bt_right w c (by omega)]; omega
    · exact ih (c + 1) (by omega) h
theorem wordsN_ok (d : Nat) (hd : d ≤ 3) : ∀ n, ∀ x ∈ wordsN d n, okW d x := by
  intro n
  induction n with
  | zero => intro x hx i hi; simp [wordsN] at hx; subst hx; exact absurd hi (by simp [ByteArray.size])
  | succ n ih =>
    intro x hx
    simp only [wordsN, nextW, List.mem_flatMap] at hx
    obtain ⟨w, hw, hx⟩ := hx
    exact extFrom_ok d hd w x (ih w hw) d 0 (by omega) hx

end Go.Proofs.Ytcklefgkbddlhaa.Pure
