/- Plain lemmas: all words stand in ascending order, and a word's number is its place. -/
import Derived.Test.YtcklefgkbddlhaaPx14
import Derived.Test.YtcklefgkbddlhaaBaseAllWM
import Derived.Test.YtcklefgkbddlhaaBaseSerQ
import Derived.Test.YtcklefgkbddlhaaBaseLvlV
namespace Go.Proofs.Ytcklefgkbddlhaa.Pure
open Go.RowKit Go.Proofs.Ytcklefgkbddlhaa.P Go.Proofs.YtcklefgkbddlhaaW.PrintWords Go.Proofs.YtcklefgkbddlhaaW.PrintLast
set_option linter.unusedVariables false
set_option linter.unusedSimpArgs false

theorem less_irr : ∀ a : List UInt8, Op.bytesLess a a = false
  | [] => rfl
  | a :: x => by unfold Op.bytesLess; simp [less_irr x]
theorem less_asym : ∀ a b : List UInt8, Op.bytesLess a b = true → Op.bytesLess b a = false
  | _, [], h => by simp [Op.bytesLess] at h
  | [], _ :: _, _ => rfl
  | a :: x, b :: y, h => by
    unfold Op.bytesLess at h ⊢
    by_cases h1 : a < b
    · have h2 : ¬ b < a := UInt8.not_lt.2 (UInt8.le_of_lt h1)
      have h3 : ¬ b = a := fun e => by subst e; exact h2 h1
      simp [h2, h3]
    · by_cases h3 : a = b
      · subst h3
        have hx : Op.bytesLess x y = true := by simpa [h1] using h
        simp [less_asym x y hx]
      · simp [h1, h3] at h
theorem less_append : ∀ a b s t : List UInt8, a.length = b.length → Op.bytesLess a b = true → Op.bytesLess (a ++ s) (b ++ t) = true
  | [], [], _, _, _, h => by simp [Op.bytesLess] at h
  | [], _ :: _, _, _, h, _ => by simp at h
  | _ :: _, [], _, _, h, _ => by simp at h
  | a :: x, b :: y, s, t, hl, h => by
    rw [List.cons_append, List.cons_append]
    unfold Op.bytesLess at h ⊢
    by_cases h1 : a < b
    · simp [h1]
    · by_cases h3 : a = b
      · subst h3
        have hx : Op.bytesLess x y = true := by simpa [h1] using h
        simp [less_append x y s t (by simpa using hl) hx]
      · simp [h1, h3] at h
theorem less_same : ∀ a s t : List UInt8, Op.bytesLess (a ++ s) (a ++ t) = Op.bytesLess s t
  | [], _, _ => rfl
  | a :: x, s, t => by
    rw [List.cons_append, List.cons_append]
    conv => lhs; unfold Op.bytesLess
    simp [less_same x s t]
theorem bef_irr (v : ByteArray) : befW v v = false := by unfold befW; rw [if_pos rfl]; exact less_irr _
theorem bef_asym (v w : ByteArray) (h : befW v w = true) : befW w v = false ∧ w.toList ≠ v.toList := by
  unfold befW at h ⊢
  by_cases e : v.size = w.size
  · rw [if_pos e] at h
    rw [if_pos e.symm]
    exact ⟨less_asym _ _ h, fun e2 => by rw [e2, less_irr] at h; cases h⟩
  · rw [if_neg e] at h
    have h := of_decide_eq_true h
    rw [if_neg (Ne.symm e)]
    refine ⟨decide_eq_false (by omega), fun e2 => e ?_⟩
    have := congrArg List.length e2
    simp [ByteArray.toList_eq] at this
    exact this.symm
theorem app_toList (v w : ByteArray) : (v ++ w).toList = v.toList ++ w.toList := by simp [ByteArray.toList_eq]
theorem bef_app (v w s t : ByteArray) (e : v.size = w.size) (e2 : s.size = t.size) (h : befW v w = true) : befW (v ++ s) (w ++ t) = true := by
  unfold befW at h ⊢
  rw [if_pos e] at h
  rw [if_pos (by simp; omega), app_toList, app_toList]
  exact less_append _ _ _ _ (by simpa [ByteArray.toList_eq] using e) h
theorem bef_wbyte (v : ByteArray) (c c' : Nat) (h : c < c') (h' : c' < 200) : befW (v ++ wbyte c) (v ++ wbyte c') = true := by
  unfold befW
  rw [if_pos (by simp [wbyte_size]), app_toList, app_toList, less_same]
  have e : ∀ c : Nat, (wbyte c).toList = [UInt8.ofNat (48 + c)] := fun c => by
    have hc2 : (48 + (c : Int)).toNat = 48 + c := by omega
    simp [wbyte, strOfNums, ByteArray.toList_eq, hc2]
  rw [e, e]
  have hlt : UInt8.ofNat (48 + c) < UInt8.ofNat (48 + c') := by
    rw [UInt8.lt_iff_toNat_lt, UInt8.toNat_ofNat', UInt8.toNat_ofNat']
    omega
  unfold Op.bytesLess
  simp only [hlt, decide_true, Bool.true_or]
theorem extFrom_mem (w x : ByteArray) : ∀ e c, x ∈ extFrom w e c → ∃ c', c ≤ c' ∧ c' < c + e ∧ x = w ++ wbyte c'
  | 0, c, h => by cases h
  | e + 1, c, h => by
    rcases List.mem_cons.1 h with h | h
    · exact ⟨c, by omega, by omega, h⟩
    · obtain ⟨c', h1, h2, h3⟩ := extFrom_mem w x e (c + 1) h
      exact ⟨c', by omega, by omega, h3⟩
theorem extFrom_asc (w : ByteArray) : ∀ e c, c + e ≤ 100 → (extFrom w e c).Pairwise (fun v w => befW v w = true)
  | 0, c, _ => List.Pairwise.nil
  | e + 1, c, h => by
    refine List.Pairwise.cons (fun x hx => ?_) (extFrom_asc w e (c + 1) (by omega))
    obtain ⟨c', h1, h2, rfl⟩ := extFrom_mem w x e (c + 1) hx
    exact bef_wbyte w c c' (by omega) (by omega)
theorem wordsN_asc (d : Nat) (hd : d ≤ 3) : ∀ n, (wordsN d n).Pairwise (fun v w => befW v w = true)
  | 0 => by simp [wordsN]
  | n + 1 => by
    rw [wordsN, nextW, List.pairwise_flatMap]
    refine ⟨fun a _ => extFrom_asc a d 0 (by omega), ?_⟩
    refine (List.Pairwise.and_mem.1 (wordsN_asc d hd n)).imp (fun {a b} h x hx y hy => ?_)
    obtain ⟨c, _, _, rfl⟩ := extFrom_mem a x d 0 hx
    obtain ⟨c', _, _, rfl⟩ := extFrom_mem b y d 0 hy
    exact bef_app a b _ _ (by rw [wordsN_size d n a h.1, wordsN_size d n b h.2.1]) (by rw [wbyte_size, wbyte_size]) h.2.2
theorem allW_mem (D : Nat) (w : ByteArray) : ∀ e m, w ∈ allW D e m → ∃ q, m ≤ q ∧ q < m + e ∧ w ∈ wordsN D q
  | 0, m, h => by cases h
  | e + 1, m, h => by
    rw [allW, List.mem_append] at h
    rcases h with h | h
    · exact ⟨m, by omega, by omega, h⟩
    · obtain ⟨q, hq, hq2, hw⟩ := allW_mem D w e (m + 1) h
      exact ⟨q, by omega, by omega, hw⟩
theorem allW_asc (d : Nat) (hd : d ≤ 3) : ∀ e m, (allW d e m).Pairwise (fun v w => befW v w = true)
  | 0, m => List.Pairwise.nil
  | e + 1, m => by
    rw [allW, List.pairwise_append]
    refine ⟨wordsN_asc d hd m, allW_asc d hd e (m + 1), fun a ha b hb => ?_⟩
    obtain ⟨q, h1, _, hb⟩ := allW_mem d b e (m + 1) hb
    unfold befW
    rw [wordsN_size d m a ha, wordsN_size d q b hb, if_neg (by omega)]
    exact decide_eq_true (by omega)
theorem wordsN_pow (D : Nat) : ∀ n, (wordsN D n).length = D ^ n
  | 0 => by simp [wordsN]
  | n + 1 => by rw [wordsN, nextW_length, wordsN_pow D n, Nat.pow_succ]
theorem allW_length (D N : Nat) (h : lvlOk (D : Int) (N : Int) = true) : 1 ≤ (allW D (N + 1) 0).length ∧ (allW D (N + 1) 0).length ≤ 1000 := by
  have hb := lvlOk_bounds h
  have hD : D = 1 ∨ D = 2 ∨ D = 3 := by omega
  have hN : N = 1 ∨ N = 2 ∨ N = 3 ∨ N = 4 ∨ N = 5 := by omega
  rcases hD with rfl | rfl | rfl <;> rcases hN with rfl | rfl | rfl | rfl | rfl <;> first | (exact absurd h (by decide)) | (simp [allW, wordsN_pow])
/-- How many words are shorter, and a word's number among those of its length. -/
def hdN (d : Nat) : Nat → Nat
  | 0 => 0
  | q + 1 => hdN d q + d ^ q
def valN (d : Nat) (w : ByteArray) : Nat → Nat
  | 0 => 0
  | i + 1 => valN d w i * d + (bt w i - 48).toNat
theorem valN_app (d : Nat) (w x : ByteArray) : ∀ i, i ≤ w.size → valN d (w ++ x) i = valN d w i
  | 0, _ => rfl
  | i + 1, h => by rw [valN, valN, valN_app d w x i (by omega), bt_left w x i (by omega)]
theorem extFrom_get (w : ByteArray) : ∀ e b c, c < e → (extFrom w e b)[c]? = some (w ++ wbyte (b + c))
  | e + 1, b, 0, _ => rfl
  | e + 1, b, c + 1, h => by
    rw [extFrom, List.getElem?_cons_succ, extFrom_get w e (b + 1) c (by omega)]
    congr 3
    omega
theorem nextW_get (d : Nat) : ∀ (l : List ByteArray) (i c : Nat), c < d → i < l.length → (nextW d l)[i * d + c]? = (l[i]?).map (fun w => w ++ wbyte c)
  | a :: l, 0, c, hc, _ => by
    rw [nextW, List.flatMap_cons, List.getElem?_append_left (by rw [extFrom_length]; omega), Nat.zero_mul, Nat.zero_add, extFrom_get a d 0 c hc]
    simp
  | a :: l, i + 1, c, hc, h => by
    rw [nextW, List.flatMap_cons, List.getElem?_append_right (by rw [extFrom_length, Nat.succ_mul]; omega), extFrom_length, List.getElem?_cons_succ, ← nextW_get d l i c hc (by simpa using h)]
    congr 1
    rw [Nat.succ_mul]; omega
theorem valN_get (d : Nat) (hd : d ≤ 3) (h0 : 1 ≤ d) : ∀ n i w, (wordsN d n)[i]? = some w → valN d w n = i
  | 0, i, w, h => by
    have hi : i < (wordsN d 0).length := (List.getElem?_eq_some_iff.1 h).1
    simp [wordsN] at hi
    rw [hi]; rfl
  | n + 1, i, w, h => by
    have hi : i < (wordsN d (n + 1)).length := (List.getElem?_eq_some_iff.1 h).1
    rw [wordsN, nextW_length] at hi
    have hdm : i = i / d * d + i % d := by rw [Nat.mul_comm]; exact (Nat.div_add_mod i d).symm
    have hq : i / d < (wordsN d n).length := Nat.div_lt_of_lt_mul (by rw [Nat.mul_comm]; exact hi)
    have hr : i % d < d := Nat.mod_lt _ (by omega)
    rw [wordsN, hdm, nextW_get d _ _ _ hr hq] at h
    obtain ⟨u, hu, rfl⟩ := Option.map_eq_some_iff.1 h
    have hs := wordsN_size d n u (List.mem_of_getElem? hu)
    rw [valN, ← hs, valN_app d u _ _ (Nat.le_refl _), bt_right u _ (by omega), hs, valN_get d hd h0 n _ u hu]
    omega
theorem allW_get (d : Nat) : ∀ e m q j, q < e → j < (wordsN d (m + q)).length → (allW d e m)[(hdN d (m + q) - hdN d m) + j]? = (wordsN d (m + q))[j]?
  | e + 1, m, 0, j, _, hj => by
    simp only [allW, Nat.add_zero, Nat.sub_self, Nat.zero_add] at hj ⊢
    exact List.getElem?_append_left hj
  | e + 1, m, q + 1, j, hq, hj => by
    have ih := allW_get d e (m + 1) q j (by omega) (by rw [show m + 1 + q = m + (q + 1) from by omega]; exact hj)
    rw [show m + 1 + q = m + (q + 1) from by omega] at ih
    have hm : ∀ q, hdN d (m + 1) ≤ hdN d (m + 1 + q) := fun q => by
      induction q with
      | zero => exact Nat.le_refl _
      | succ q ih => exact Nat.le_trans ih (Nat.le_add_right _ _)
    have hm := hm q
    rw [show m + 1 + q = m + (q + 1) from by omega, hdN] at hm
    rw [allW, List.getElem?_append_right (by rw [wordsN_pow]; omega), wordsN_pow, ← ih]
    congr 1
    rw [hdN]
    omega
theorem pow_small (d : Nat) (hd : d ≤ 3) : ∀ q, q ≤ 5 → d ^ q ≤ 243 := fun q hq => Nat.le_trans (Nat.pow_le_pow_left hd q) (Nat.le_trans (Nat.pow_le_pow_right (by omega) hq) (by decide))
theorem hdN_small (d : Nat) (hd : d ≤ 3) : ∀ q, q ≤ 6 → hdN d q ≤ q * 243
  | 0, _ => by simp [hdN]
  | q + 1, h => by
    have := hdN_small d hd q (by omega)
    have := pow_small d hd q (by omega)
    rw [hdN, Nat.succ_mul]; omega
theorem valN_small (d : Nat) (hd : d ≤ 3) (w : ByteArray) (hw : okW d w) : ∀ i, i ≤ w.size → valN d w i + 1 ≤ 4 ^ i
  | 0, _ => by simp [valN]
  | i + 1, h => by
    have ih := valN_small d hd w hw i (by omega)
    have hb := hw i (by omega)
    rw [valN, Nat.pow_succ]
    have h3 : valN d w i * d ≤ valN d w i * 3 := Nat.mul_le_mul_left _ hd
    omega
theorem number_step (k d h v m i : Nat) (w : ByteArray) (hi : i < w.size) (hs : w.size ≤ 5) (hb : 48 ≤ bt w i ∧ bt w i < 48 + (d : Int)) (hd : d ≤ 3) (h1 : h ≤ 10000) (h2 : v ≤ 10000) (h3 : m ≤ 10000) :
    impl_number.l0 (k + 1) (d : Int) w (h : Int) (v : Int) (m : Int) (w.size : Int) (i : Int) = impl_number.l0 k (d : Int) w ((h + m : Nat) : Int) ((v * d + (bt w i - 48).toNat : Nat) : Int) ((m * d : Nat) : Int) (w.size : Int) ((i + 1 : Nat) : Int) := by
  have h5 : v * d ≤ v * 3 := Nat.mul_le_mul_left _ hd
  have h6 : m * d ≤ m * 3 := Nat.mul_le_mul_left _ hd
  rw [impl_number.l0, if_pos (by omega), if_pos (by omega), if_pos (by omega), ← Int.natCast_mul, ← Int.natCast_mul]
  generalize v * d = vd at h5 ⊢
  generalize m * d = md at h6 ⊢
  rw [wrap_of ((h : Int) + (m : Int)) (by omega) (by omega), wrap_of (vd : Int) (by omega) (by omega), wrap_of (md : Int) (by omega) (by omega), wrap_of ((vd : Int) + (bt w i - 48) % 256) (by omega) (by omega), wrap_nat _ (by omega)]
  congr 1
  · omega
theorem number_l0 (d : Nat) (hd : d ≤ 3) (w : ByteArray) (hw : okW d w) (hs : w.size ≤ 5) : ∀ e i k, i + e = w.size → e < k →
    impl_number.l0 k (d : Int) w (hdN d i : Int) (valN d w i : Int) ((d ^ i : Nat) : Int) (w.size : Int) (i : Int) = some ((hdN d w.size + valN d w w.size : Nat) : Int) := by
  intro e
  induction e with
  | zero =>
    intro i k hi hk
    obtain ⟨k, rfl⟩ : ∃ m, k = m + 1 := ⟨k - 1, by omega⟩
    obtain rfl : i = w.size := by omega
    have h1 := hdN_small d hd w.size (by omega)
    have h2 := valN_small d hd w hw w.size (Nat.le_refl _)
    have h3 : 4 ^ w.size ≤ 1024 := Nat.le_trans (Nat.pow_le_pow_right (by omega) hs) (by decide)
    generalize hdN d w.size = H at h1 ⊢
    generalize valN d w w.size = V at h2 ⊢
    rw [impl_number.l0, if_neg (by omega), wrap_of _ (by omega) (by omega)]
    simp
  | succ e ih =>
    intro i k hi hk
    obtain ⟨k, rfl⟩ : ∃ m, k = m + 1 := ⟨k - 1, by omega⟩
    have h1 := hdN_small d hd i (by omega)
    have h2 := valN_small d hd w hw i (by omega)
    have h3 : 4 ^ i ≤ 1024 := Nat.le_trans (Nat.pow_le_pow_right (by omega) (by omega : i ≤ 5)) (by decide)
    have h4 := pow_small d hd i (by omega)
    have hr := ih (i + 1) k (by omega) (by omega)
    rw [hdN, valN, Nat.pow_succ] at hr
    exact (number_step k d _ _ _ i w (by omega) hs (hw i (by omega)) hd (by omega) (by omega) (by omega)).trans hr
theorem number_word (D N q : Nat) (hl : lvlOk (D : Int) (N : Int) = true) (hq : q ≤ N) (v : ByteArray) (hv : v ∈ wordsN D q) :
    ∃ n, n < (allW D (N + 1) 0).length ∧ (allW D (N + 1) 0)[n]? = some v ∧ Ev (fun k => impl_number.f k (D : Int) v) (n : Int) := by
  have hb := lvlOk_bounds hl
  obtain ⟨j, hj⟩ := List.getElem?_of_mem hv
  have hjl := (List.getElem?_eq_some_iff.1 hj).1
  have hs := wordsN_size D q v hv
  have hg := allW_get D (N + 1) 0 q j (by omega) (by rwa [Nat.zero_add])
  rw [Nat.zero_add, hj] at hg
  have hg : (allW D (N + 1) 0)[hdN D q + j]? = some v := hg
  have hval := valN_get D (by omega) (by omega) q j v hj
  refine ⟨hdN D q + j, (List.getElem?_eq_some_iff.1 hg).1, hg, ⟨10, fun k hk => ?_⟩⟩
  have := number_l0 D (by omega) v (wordsN_ok D (by omega) q v hv) (by omega) v.size 0 k (by omega) (by omega)
  rw [hs, hval] at this
  unfold impl_number.f
  rw [hs]
  exact this
end Go.Proofs.Ytcklefgkbddlhaa.Pure
