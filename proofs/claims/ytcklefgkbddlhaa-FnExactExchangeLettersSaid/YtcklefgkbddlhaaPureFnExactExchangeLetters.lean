/- The law on ExchangeLetters: both programs come to the same. -/
import Derived.Test.YtcklefgkbddlhaaPx9
import Derived.Test.YtcklefgkbddlhaaPx8
import Derived.Test.YtcklefgkbddlhaaBaseExch
import Derived.Test.YtcklefgkbddlhaaBaseSerV
import Derived.Test.YtcklefgkbddlhaaTabX
namespace Go.Proofs.Ytcklefgkbddlhaa.Pure
open Go.RowKit Go.Proofs.Ytcklefgkbddlhaa.P Go.Proofs.Ytcklefgkbddlhaa.Tab Go.Proofs.YtcklefgkbddlhaaW.PrintWords Go.Proofs.YtcklefgkbddlhaaW.PrintLast
set_option linter.unusedVariables false
set_option linter.unusedSimpArgs false

/-! Are the letters met, each once? -/
theorem len_two : ∀ (l : List Int), l.length = 2 → ∃ a b, l = [a, b]
  | [a, b], _ => ⟨a, b, rfl⟩
  | [], h => by simp at h
  | [_], h => by simp at h
  | _ :: _ :: _ :: _, h => by simp at h
theorem len_three : ∀ (l : List Int), l.length = 3 → ∃ a b c, l = [a, b, c]
  | [a, b, c], _ => ⟨a, b, c, rfl⟩
  | [], h => by simp at h
  | [_], h => by simp at h
  | [_, _], h => by simp at h
  | _ :: _ :: _ :: _ :: _, h => by simp at h
theorem index_l0 (ls : List Int) (hl : ls.length ≤ 1048576) (v : Int) : ∀ e i, i + e = ls.length → Ev (fun k => (slices_Index_int64_int64.l0 k ls v (ls.length : Int) (i : Int)).bind fun t => some (decide (t ≥ 0))) (decide (v ∈ ls.drop i))
  | 0, i, h => by
    rw [List.drop_of_length_le (by omega)]
    refine Ev.step (f := fun _ => some false) (fun k => ?_) (Ev.now _)
    rw [slices_Index_int64_int64.l0, if_neg (by omega), Option.bind_some]
    rfl
  | e + 1, i, h => by
    have hlt : i < ls.length := by omega
    rw [List.drop_eq_getElem_cons hlt]
    by_cases hv : v = ls[i]
    · rw [show decide (v ∈ ls[i] :: ls.drop (i + 1)) = true from decide_eq_true (by rw [hv]; exact List.mem_cons_self ..)]
      refine Ev.step (f := fun _ => some true) (fun k => ?_) (Ev.now _)
      rw [slices_Index_int64_int64.l0, if_pos (by omega), if_pos (by omega), if_pos (by omega), rd_nat ls i hlt, if_pos hv, Option.bind_some, decide_eq_true (by omega)]
    · have ih := index_l0 ls hl v e (i + 1) (by omega)
      rw [show decide (v ∈ ls[i] :: ls.drop (i + 1)) = decide (v ∈ ls.drop (i + 1)) from by simp only [List.mem_cons, hv, false_or]]
      refine Ev.step (fun k => ?_) ih
      rw [slices_Index_int64_int64.l0, if_pos (by omega), if_pos (by omega), if_pos (by omega), rd_nat ls i hlt, if_neg hv, wrap_nat _ (by omega)]
theorem contains_f (ls : List Int) (hl : ls.length ≤ 1048576) (v : Int) : Ev (fun k => slices_Contains_int64_int64.f k ls v) (decide (v ∈ ls)) := by
  have := index_l0 ls hl v ls.length 0 (by omega)
  rw [List.drop_zero] at this
  exact this
/-- All letters from one on. -/
def hasL (ls : List Int) : Nat → Nat → Bool
  | 0, _ => true
  | e + 1, i => decide ((i : Int) ∈ ls) && hasL ls e (i + 1)
theorem contL_ev (ls : List Int) (hl : ls.length ≤ 1048576) : ∀ e i, Ev (fun k => contL k ls e i) (hasL ls e i)
  | 0, i => Ev.now _
  | e + 1, i => by
    refine Ev.bind (f := fun k b => if b = true then contL k ls e (i + 1) else some false) (contains_f ls hl (i : Int)) ?_
    rw [hasL]
    cases hb : decide ((i : Int) ∈ ls) with
    | true => exact Ev.congr (fun k => if_pos rfl) (contL_ev ls hl e (i + 1))
    | false => exact Ev.congr (fun k => if_neg (by simp)) (Ev.now _)
/-- In the range, and none twice. -/
def chkL (d : Int) : List Int → List Int → Bool
  | [], _ => true
  | v :: l, ms => (decide (0 ≤ v) && decide (v ≤ d - 1)) && (!(metB ms v) && chkL d l (v :: ms))
theorem has_chk (d : Int) (ls : List Int) (hd : 1 ≤ d) (hd3 : d ≤ 3) (hl : (ls.length : Int) = d) : hasL ls ls.length 0 = chkL d ls [] := by
  have h3 : ls.length = 1 ∨ ls.length = 2 ∨ ls.length = 3 := by omega
  rw [Bool.eq_iff_iff]
  rcases h3 with h | h | h
  · obtain ⟨a, rfl⟩ := List.length_eq_one_iff.1 h
    simp [hasL, chkL, metB] at hl ⊢
    omega
  · obtain ⟨a, b, rfl⟩ := len_two ls h
    simp [hasL, chkL, metB] at hl ⊢
    omega
  · obtain ⟨a, b, c, rfl⟩ := len_three ls h
    simp [hasL, chkL, metB] at hl ⊢
    omega
theorem chk_perm (D : Nat) (ls : List Int) (hd : 1 ≤ D) (hd3 : D ≤ 3) (hl : (ls.length : Int) = D) (h : chkL (D : Int) ls [] = true) : Perm1 D ls := by
  have h3 : ls.length = 1 ∨ ls.length = 2 ∨ ls.length = 3 := by omega
  have hl2 : ls.length = D := by omega
  rcases h3 with h4 | h4 | h4
  · obtain ⟨a, rfl⟩ := List.length_eq_one_iff.1 h4
    simp [chkL, metB] at h
    refine ⟨hl2, fun x hx => ?_, by simp⟩
    simp at hx
    omega
  · obtain ⟨a, b, rfl⟩ := len_two ls h4
    simp [chkL, metB] at h
    refine ⟨hl2, fun x hx => ?_, ?_⟩
    · simp at hx
      omega
    · simp
      omega
  · obtain ⟨a, b, c, rfl⟩ := len_three ls h4
    simp [chkL, metB] at h
    refine ⟨hl2, fun x hx => ?_, ?_⟩
    · simp at hx
      omega
    · simp
      omega
/-! The table behind the terms. -/
def idxX (ws : List ByteArray) (v : ByteArray) : Nat := ws.findIdx fun u => decide (u = v)
theorem idxX_of (ws : List ByteArray) (hasc : ws.Pairwise (fun v w => befW v w = true)) (n : Nat) (v : ByteArray) (h : ws[n]? = some v) : idxX ws v = n := by
  obtain ⟨hn, he⟩ := List.getElem?_eq_some_iff.1 h
  have hv : v ∈ ws := he ▸ List.getElem_mem hn
  have hi : idxX ws v < ws.length := List.findIdx_lt_length.2 ⟨v, hv, decide_eq_true rfl⟩
  have hg : ws[idxX ws v] = v := of_decide_eq_true (List.findIdx_getElem (w := hi))
  have hlt := List.pairwise_iff_getElem.1 hasc
  rcases Nat.lt_trichotomy (idxX ws v) n with h1 | h1 | h1
  · have := hlt _ n hi hn h1
    rw [hg, he, bef_irr] at this; cases this
  · exact h1
  · have := hlt n _ hn hi h1
    rw [hg, he, bef_irr] at this; cases this
structure TermX (D N : Nat) (t : S89) : Prop where
  word : okW D t.f0
  size : t.f0.size ≤ N
  val : okF2 t.f1
def exP (ws : List ByteArray) (ls : List Int) : List S89 → List S27 → List S27
  | [], vs => vs
  | t :: l, vs => exP ws ls l (vs.set (idxX ws (exW ls t.f0)) t.f1)
theorem exP_length (ws : List ByteArray) (ls : List Int) : ∀ l vs, (exP ws ls l vs).length = vs.length
  | [], vs => rfl
  | t :: l, vs => by rw [exP, exP_length ws ls l, List.length_set]
theorem rdF_set (vs : List S27) (i j : Nat) (x : S27) (h : i ≠ j) : rd_T27 (vs.set i x) (j : Int) = rd_T27 vs (j : Int) := by
  simp [rd_T27, List.getElem?_set, h]
theorem set_ok {D N : Nat} {t : S89} (ht : TermX D N t) {vs : List S27} (hv : okV vs) (i : Nat) : okV (vs.set i t.f1) := by
  intro x hx
  rcases List.mem_or_eq_of_mem_set hx with h | h
  · exact hv x h
  · rw [h]; exact ht.val
section
variable {D N : Nat} (hl : lvlOk (D : Int) (N : Int) = true) {ls : List Int} (hp : Perm1 D ls)
include hl
theorem word_idx (v : ByteArray) (hv : okW D v) (hs : v.size ≤ N) : ∃ h : idxX (allW D (N + 1) 0) v < (allW D (N + 1) 0).length, (allW D (N + 1) 0)[idxX (allW D (N + 1) 0) v] = v ∧ Ev (fun k => impl_number.f k (D : Int) v) (idxX (allW D (N + 1) 0) v : Int) := by
  have hb := lvlOk_bounds hl
  obtain ⟨n, h1, h2, h3⟩ := number_word D N v.size hl hs v (mem_wordsN D (by omega) v.size v rfl hv)
  have := idxX_of (allW D (N + 1) 0) (allW_asc D (by omega) (N + 1) 0) n v h2
  rw [this]
  exact ⟨h1, (List.getElem?_eq_some_iff.1 h2).2, h3⟩
theorem idx_inj (v w : ByteArray) (hv : okW D v) (hs : v.size ≤ N) (hw : okW D w) (hs2 : w.size ≤ N) (h : idxX (allW D (N + 1) 0) v = idxX (allW D (N + 1) 0) w) : v = w := by
  obtain ⟨h1, e1, _⟩ := word_idx hl v hv hs
  obtain ⟨h2, e2, _⟩ := word_idx hl w hw hs2
  rw [← e1, ← e2]
  simp only [h]
theorem bef_idx (v w : ByteArray) (hv : okW D v) (hs : v.size ≤ N) (hw : okW D w) (hs2 : w.size ≤ N) (h : befW v w = true) : idxX (allW D (N + 1) 0) v < idxX (allW D (N + 1) 0) w := by
  have hb := lvlOk_bounds hl
  obtain ⟨h1, e1, _⟩ := word_idx hl v hv hs
  obtain ⟨h2, e2, _⟩ := word_idx hl w hw hs2
  have hlt := List.pairwise_iff_getElem.1 (allW_asc D (by omega) (N + 1) 0)
  rcases Nat.lt_trichotomy (idxX (allW D (N + 1) 0) v) (idxX (allW D (N + 1) 0) w) with h3 | h3 | h3
  · exact h3
  · have := idx_inj hl v w hv hs hw hs2 h3
    rw [this, bef_irr] at h; cases h
  · have := hlt _ _ h2 h1 h3
    rw [e1, e2] at this
    have := (bef_asym v w h).1
    simp_all
theorem after_idx : ∀ (l : List S89) (v : ByteArray), okW D v → v.size ≤ N → termsFrom (D : Int) (N : Int) (some v) l = true → (∀ t ∈ l, TermX D N t) → ∀ t ∈ l, idxX (allW D (N + 1) 0) v < idxX (allW D (N + 1) 0) t.f0
  | [], _, _, _, _, _, t, ht => by cases ht
  | u :: l, v, hv, hs, h, hT, t, ht => by
    simp only [termsFrom, Bool.and_eq_true, prevOk] at h
    have hu := hT u (List.mem_cons_self ..)
    have h1 := bef_idx hl v u.f0 hv hs hu.word hu.size h.1.2
    rcases List.mem_cons.1 ht with rfl | ht
    · exact h1
    · exact Nat.lt_trans h1 (after_idx l u.f0 hu.word hu.size h.2 (fun x hx => hT x (List.mem_cons_of_mem _ hx)) t ht)
include hp
theorem ex_word {t : S89} (ht : TermX D N t) : okW D (exW ls t.f0) ∧ (exW ls t.f0).size = t.f0.size := by
  have hb := lvlOk_bounds hl
  exact ⟨exW_ok (by omega) hp ht.word, exW_size (by omega) hp t.f0⟩
/-- What is kept behind a term: the places of the others are free. -/
theorem free_step {t : S89} {l : List S89} {vs : List S27} {p : Option ByteArray} (h : termsFrom (D : Int) (N : Int) p (t :: l) = true) (hT : ∀ u ∈ t :: l, TermX D N u) (hf : ∀ u ∈ t :: l, rd_T27 vs (idxX (allW D (N + 1) 0) (exW ls u.f0) : Int) = ⟨0, 1⟩) :
    ∀ u ∈ l, rd_T27 (vs.set (idxX (allW D (N + 1) 0) (exW ls t.f0)) t.f1) (idxX (allW D (N + 1) 0) (exW ls u.f0) : Int) = ⟨0, 1⟩ := by
  have hb := lvlOk_bounds hl
  intro u hu
  have ht := hT t (List.mem_cons_self ..)
  have hu1 := hT u (List.mem_cons_of_mem _ hu)
  simp only [termsFrom, Bool.and_eq_true] at h
  have h1 := after_idx hl l t.f0 ht.word ht.size h.2 (fun x hx => hT x (List.mem_cons_of_mem _ hx)) u hu
  rw [rdF_set _ _ _ _ (fun e => ?_)]
  · exact hf u (List.mem_cons_of_mem _ hu)
  · obtain ⟨a1, a2⟩ := ex_word hl hp ht
    obtain ⟨b1, b2⟩ := ex_word hl hp hu1
    have hts := ht.size
    have hus := hu1.size
    have := exW_inj (by omega) hp ht.word hu1.word (idx_inj hl _ _ a1 (by omega) b1 (by omega) e)
    rw [this] at h1
    omega
/-! The program. -/
theorem bytesX_go {w : ByteArray} (hw : okW D w) : ∀ e i, i + e = w.size → bytesX ls e i ((exL ls w).take i ++ (strB w).drop i) = some (exL ls w)
  | 0, i, h => by
    have h1 : (exL ls w).length = w.size := by simp [exL]
    rw [bytesX, List.take_of_length_le (by omega), List.drop_of_length_le (by rw [strB_length]; omega), List.append_nil]
  | e + 1, i, h => by
    have hb := lvlOk_bounds hl
    have hlt : i < w.size := by omega
    have h1 : (exL ls w).length = w.size := by simp [exL]
    have h2 : i < (strB w).length := by rw [strB_length]; exact hlt
    obtain ⟨c, c1, c2, c3, c4, c5, c6⟩ := ex_entry (by omega) hp hw i hlt
    have hbt : (strB w)[i] = bt w (i : Int) := by
      unfold bt
      rw [dif_pos (by simpa using hlt)]
      simp [strB, ByteArray.getElem_eq_getElem_data]
    have hrd : rd ((exL ls w).take i ++ (strB w).drop i) (i : Int) = bt w (i : Int) := by
      rw [rd_nat _ i (by simp; omega), List.getElem_append_right (by simp; omega)]
      simp only [List.length_take, List.getElem_drop]
      rw [← hbt]
      congr 1
      omega
    have e1 : (bt w (i : Int) - 48) % 256 = (c : Int) := by omega
    have e2 : rd ls (c : Int) = ls[c] := rd_nat ls c c3
    rw [c1] at c4
    rw [bytesX, hrd, e1, if_pos (by omega), e2, show (48 + ls[c]) % 256 = 48 + ls[c] by omega]
    have ih := bytesX_go hw e (i + 1) (by omega)
    have hx : (exL ls w)[i]'(by omega) = 48 + ls[c] := by
      simp only [exL, List.getElem_map, List.getElem_range]
      rw [c1, c4]
    have e3 : ((exL ls w).take i ++ (strB w).drop i).set i (48 + ls[c]) = (exL ls w).take (i + 1) ++ (strB w).drop (i + 1) := by
      rw [List.drop_eq_getElem_cons h2, List.set_append_right _ _ (by simp; omega)]
      rw [show i - ((exL ls w).take i).length = 0 by simp; omega, List.set_cons_zero, List.take_succ_eq_append_getElem (by omega : i < (exL ls w).length), hx, List.append_assoc]
      rfl
    rw [e3]
    exact ih
theorem exchT_ev : ∀ (l : List S89) (p : Option ByteArray) (vs : List S27), termsFrom (D : Int) (N : Int) p l = true → (∀ u ∈ l, TermX D N u) → vs.length = (allW D (N + 1) 0).length → (∀ u ∈ l, rd_T27 vs (idxX (allW D (N + 1) 0) (exW ls u.f0) : Int) = ⟨0, 1⟩) →
    Ev (fun k => exchT k (D : Int) ls l vs false) (exP (allW D (N + 1) 0) ls l vs, false)
  | [], _, vs, _, _, _, _ => Ev.now _
  | t :: l, p, vs, h, hT, hlen, hf => by
    have hb := lvlOk_bounds hl
    have ht := hT t (List.mem_cons_self ..)
    have hts := ht.size
    obtain ⟨a1, a2⟩ := ex_word hl hp ht
    obtain ⟨i1, i2, i3⟩ := word_idx hl (exW ls t.f0) a1 (by omega)
    have hbx : bytesX ls t.f0.size 0 (strB t.f0) = some (exL ls t.f0) := by
      have := bytesX_go hl hp ht.word t.f0.size 0 (by omega)
      rw [List.take_zero, List.drop_zero, List.nil_append] at this
      exact this
    have hpl := impl_plus_f ⟨0, 1⟩ t.f1 ok01 ht.val
    rw [plusF_new t.f1 ht.val, show fitF t.f1.f0 t.f1.f1 = true from ht.val] at hpl
    have hf0 := hf t (List.mem_cons_self ..)
    have ht2 := h
    simp only [termsFrom, Bool.and_eq_true] at ht2
    have ih := exchT_ev l (some t.f0) (vs.set (idxX (allW D (N + 1) 0) (exW ls t.f0)) t.f1) ht2.2 (fun u hu => hT u (List.mem_cons_of_mem _ hu)) (by rw [List.length_set]; exact hlen) (free_step hl hp h hT hf)
    have hxl : (exL ls t.f0).length = t.f0.size := by simp [exL]
    refine Ev.congr (f := fun k => (impl_number.f k (D : Int) (exW ls t.f0)).bind fun (i : Int) => if 0 ≤ i ∧ i < (vs.length : Int) then
      (impl_Fraction_plus.f k (rd_T27 vs i).f0 (rd_T27 vs i).f1 t.f1.f0 t.f1.f1).bind fun s => exchT k (D : Int) ls l (addV vs i.toNat s.1 s.2.1 s.2.2) (false || !s.2.2)
    else none) (fun k => ?_) ?_
    · rw [exchT, hbx, Option.bind_some, if_pos ⟨hxl, by omega⟩]
      rfl
    · refine Ev.bind (f := fun (k : Nat) (i : Int) => if 0 ≤ i ∧ i < (vs.length : Int) then
        (impl_Fraction_plus.f k (rd_T27 vs i).f0 (rd_T27 vs i).f1 t.f1.f0 t.f1.f1).bind fun s => exchT k (D : Int) ls l (addV vs i.toNat s.1 s.2.1 s.2.2) (false || !s.2.2)
      else none) i3 ?_
      refine Ev.congr (fun k => if_pos ⟨by omega, by omega⟩) ?_
      rw [hf0]
      refine Ev.bind (f := fun (k : Nat) (s : Int × Int × Bool) => exchT k (D : Int) ls l (addV vs ((idxX (allW D (N + 1) 0) (exW ls t.f0) : Nat) : Int).toNat s.1 s.2.1 s.2.2) (false || !s.2.2)) hpl ?_
      dsimp only
      have ea : addV vs (idxX (allW D (N + 1) 0) (exW ls t.f0)) t.f1.f0 t.f1.f1 true = vs.set (idxX (allW D (N + 1) 0) (exW ls t.f0)) t.f1 := by unfold addV sel; simp
      rw [Int.toNat_natCast, ea]
      exact ih
/-! The reference. -/
theorem spec_l2_go (l : List S89) (hll : l.length ≤ 1048576) (m : Nat) (hm : m < l.length) (hw : okW D l[m].f0) (hs : l[m].f0.size ≤ N) (a b : Int) (c : List S89) (e f : Int) (g : List S89) {R : Int × Int × List S89 × Int}
    (h : Ev (fun k => (spec_l01Put.f k g (exW ls l[m].f0) l[m].f1.f0 l[m].f1.f1).bind fun (x : List S89 × Bool) => spec_ExchangeLetters.l1 k ls ((m + 1 : Nat) : Int) a b l e f x.1) R) : ∀ q i, i + q = l[m].f0.size →
    Ev (fun k => spec_ExchangeLetters.l2 k ls (m : Int) ((exL ls l[m].f0).take i) (i : Int) a b l e f g) R
  | 0, i, hi => by
    have h1 : (exL ls l[m].f0).length = l[m].f0.size := by simp [exL]
    rw [List.take_of_length_le (by omega)]
    refine Ev.step (fun k => ?_) h
    rw [spec_ExchangeLetters.l2, if_pos (by omega), if_pos (by omega), rdI_nat l m hm, if_neg (by omega), wrap_nat _ (by omega)]
    rfl
  | q + 1, i, hi => by
    have hb := lvlOk_bounds hl
    have hlt : i < l[m].f0.size := by omega
    have h1 : (exL ls l[m].f0).length = l[m].f0.size := by simp [exL]
    obtain ⟨c0, c1, c2, c3, c4, c5, c6⟩ := ex_entry (by omega) hp hw i hlt
    have e1 : (bt l[m].f0 (i : Int) - 48) % 256 = (c0 : Int) := by omega
    have e2 : rd ls (c0 : Int) = ls[c0] := rd_nat ls c0 c3
    rw [c1] at c4
    have ih := spec_l2_go l hll m hm hw hs a b c e f g h q (i + 1) (by omega)
    have hx : (exL ls l[m].f0)[i]'(by omega) = 48 + ls[c0] := by
      simp only [exL, List.getElem_map, List.getElem_range]
      rw [c1, c4]
    rw [List.take_succ_eq_append_getElem (by omega : i < (exL ls l[m].f0).length), hx] at ih
    refine Ev.step (fun k => ?_) ih
    rw [spec_ExchangeLetters.l2, if_pos (by omega), if_pos (by omega), rdI_nat l m hm, if_pos (by omega), if_pos (by omega), e1, if_pos (by omega), if_pos (by omega), if_pos (by simp; omega), e2, wrap_of (48 + ls[c0]) (by omega) (by omega), show (48 + ls[c0]) % 256 = 48 + ls[c0] by omega, wrap_nat _ (by omega)]
theorem spec_l1_go (l : List S89) (hll : l.length ≤ 1048576) (hT : ∀ u ∈ l, TermX D N u) : ∀ e m (p : Option ByteArray) (vs : List S27), m + e = l.length → termsFrom (D : Int) (N : Int) p (l.drop m) = true → okV vs → vs.length = (allW D (N + 1) 0).length → (∀ u ∈ l.drop m, rd_T27 vs (idxX (allW D (N + 1) 0) (exW ls u.f0) : Int) = ⟨0, 1⟩) →
    Ev (fun k => spec_ExchangeLetters.l1 k ls (m : Int) (D : Int) (N : Int) l (D : Int) (N : Int) (termsOf (allW D (N + 1) 0) vs (allW D (N + 1) 0).length)) ((D : Int), (N : Int), termsOf (allW D (N + 1) 0) (exP (allW D (N + 1) 0) ls (l.drop m) vs) (allW D (N + 1) 0).length, 0)
  | 0, m, p, vs, hm, _, _, _, _ => by
    rw [List.drop_of_length_le (by omega)]
    refine Ev.step (f := fun _ => some ((D : Int), (N : Int), termsOf (allW D (N + 1) 0) vs (allW D (N + 1) 0).length, 0)) (fun k => ?_) (Ev.now _)
    rw [spec_ExchangeLetters.l1, if_neg (by omega)]
  | e + 1, m, p, vs, hm, h, hv, hlen, hf => by
    have hb := lvlOk_bounds hl
    have hlt : m < l.length := by omega
    rw [List.drop_eq_getElem_cons hlt] at h hf ⊢
    have ht := hT _ (List.getElem_mem hlt)
    have hts := ht.size
    obtain ⟨a1, a2⟩ := ex_word hl hp ht
    obtain ⟨i1, i2, _⟩ := word_idx hl (exW ls l[m].f0) a1 (by omega)
    have hTd : ∀ u ∈ l[m] :: l.drop (m + 1), TermX D N u := fun u hu => by
      rcases List.mem_cons.1 hu with rfl | hu
      · exact ht
      · exact hT u (List.mem_of_mem_drop hu)
    have ht2 := h
    simp only [termsFrom, Bool.and_eq_true] at ht2
    have ih := spec_l1_go l hll hT e (m + 1) (some l[m].f0) (vs.set (idxX (allW D (N + 1) 0) (exW ls l[m].f0)) l[m].f1) (by omega) ht2.2 (set_ok ht hv _) (by rw [List.length_set]; exact hlen) (free_step hl hp h hTd hf)
    have hw := allW_length D N hl
    have hput := put_table (allW D (N + 1) 0) hw.2 (allW_asc D (by omega) (N + 1) 0) vs hlen hv _ i1 l[m].f1 ht.val
    rw [hf _ (List.mem_cons_self ..), plusF_new _ ht.val, if_pos (show fitF l[m].f1.f0 l[m].f1.f1 = true from ht.val), i2] at hput
    have h2 := spec_l2_go hl hp l hll m hlt ht.word ht.size (D : Int) (N : Int) l (D : Int) (N : Int) (termsOf (allW D (N + 1) 0) vs (allW D (N + 1) 0).length) (Ev.bind (f := fun (k : Nat) (x : List S89 × Bool) => spec_ExchangeLetters.l1 k ls ((m + 1 : Nat) : Int) (D : Int) (N : Int) l (D : Int) (N : Int) x.1) hput ih) l[m].f0.size 0 (by omega)
    rw [List.take_zero] at h2
    refine Ev.step (fun k => ?_) h2
    rw [spec_ExchangeLetters.l1, if_pos (by omega)]
    rfl
end
theorem spec_l0_go (D N : Nat) (ls : List Int) (hd : D ≤ 3) (hll : ls.length ≤ 3) (l : List S89) {R : Int × Int × List S89 × Int} (h : Ev (fun k => spec_ExchangeLetters.l1 k ls 0 (D : Int) (N : Int) l (D : Int) (N : Int) ([] : List S89)) R) : ∀ e i (ms : List Int), i + e = ls.length →
    Ev (fun k => spec_ExchangeLetters.l0 k ls (i : Int) ms (D : Int) (N : Int) l) (if chkL (D : Int) (ls.drop i) ms = true then R else (0, 0, [], 2))
  | 0, i, ms, hi => by
    rw [List.drop_of_length_le (by omega), if_pos (by simp [chkL])]
    refine Ev.step (fun k => ?_) h
    rw [spec_ExchangeLetters.l0, if_neg (by omega)]
    unfold spec_l01Empty.f
    rw [Option.bind_some]
  | e + 1, i, ms, hi => by
    have hlt : i < ls.length := by omega
    have ih := spec_l0_go D N ls hd hll l h e (i + 1) (ls[i] :: ms) (by omega)
    rw [List.drop_eq_getElem_cons hlt, chkL]
    cases h1 : (decide (0 ≤ ls[i]) && decide (ls[i] ≤ (D : Int) - 1)) with
    | false =>
      rw [Bool.false_and, if_neg (by simp)]
      refine Ev.step (f := fun _ => some (0, 0, [], 2)) (fun k => ?_) (Ev.now _)
      rw [spec_ExchangeLetters.l0, if_pos (by omega), if_pos (by omega), rd_nat ls i hlt, wrap_of ((D : Int) - 1) (by omega) (by omega), spec_in_f, Option.bind_some, h1, if_neg (by simp)]
    | true =>
      have h2 := h1
      simp only [Bool.and_eq_true, decide_eq_true_eq] at h2
      rw [Bool.true_and]
      cases h3 : metB ms ls[i] with
      | true =>
        rw [Bool.not_true, Bool.false_and, if_neg (by simp)]
        refine Ev.step (f := fun _ => some (0, 0, [], 2)) (fun k => ?_) (Ev.now _)
        rw [spec_ExchangeLetters.l0, if_pos (by omega), if_pos (by omega), rd_nat ls i hlt, wrap_of ((D : Int) - 1) (by omega) (by omega), spec_in_f, Option.bind_some, h1, if_pos rfl, if_pos (by omega), h3, if_pos rfl]
      | false =>
        rw [Bool.not_false, Bool.true_and]
        refine Ev.step (fun k => ?_) ih
        rw [spec_ExchangeLetters.l0, if_pos (by omega), if_pos (by omega), rd_nat ls i hlt, wrap_of ((D : Int) - 1) (by omega) (by omega), spec_in_f, Option.bind_some, h1, if_pos rfl, if_pos (by omega), h3, if_neg (by simp), wrap_nat _ (by omega)]
theorem spec_l0_bad (D N : Nat) (ls : List Int) (hd : D ≤ 3) (hll : ls.length ≤ 3) (l : List S89) : ∀ e i (ms : List Int), i + e = ls.length → ¬ chkL (D : Int) (ls.drop i) ms = true →
    Ev (fun k => spec_ExchangeLetters.l0 k ls (i : Int) ms (D : Int) (N : Int) l) (0, 0, [], 2)
  | 0, i, ms, hi, hc => by
    rw [List.drop_of_length_le (by omega)] at hc
    exact absurd (by simp [chkL]) hc
  | e + 1, i, ms, hi, hc => by
    have hlt : i < ls.length := by omega
    rw [List.drop_eq_getElem_cons hlt, chkL] at hc
    cases h1 : (decide (0 ≤ ls[i]) && decide (ls[i] ≤ (D : Int) - 1)) with
    | false =>
      refine Ev.step (f := fun _ => some (0, 0, [], 2)) (fun k => ?_) (Ev.now _)
      rw [spec_ExchangeLetters.l0, if_pos (by omega), if_pos (by omega), rd_nat ls i hlt, wrap_of ((D : Int) - 1) (by omega) (by omega), spec_in_f, Option.bind_some, h1, if_neg (by simp)]
    | true =>
      have h2 := h1
      simp only [Bool.and_eq_true, decide_eq_true_eq] at h2
      rw [h1, Bool.true_and] at hc
      cases h3 : metB ms ls[i] with
      | true =>
        refine Ev.step (f := fun _ => some (0, 0, [], 2)) (fun k => ?_) (Ev.now _)
        rw [spec_ExchangeLetters.l0, if_pos (by omega), if_pos (by omega), rd_nat ls i hlt, wrap_of ((D : Int) - 1) (by omega) (by omega), spec_in_f, Option.bind_some, h1, if_pos rfl, if_pos (by omega), h3, if_pos rfl]
      | false =>
        rw [h3, Bool.not_false, Bool.true_and] at hc
        refine Ev.step (fun k => ?_) (spec_l0_bad D N ls hd hll l e (i + 1) (ls[i] :: ms) (by omega) hc)
        rw [spec_ExchangeLetters.l0, if_pos (by omega), if_pos (by omega), rd_nat ls i hlt, wrap_of ((D : Int) - 1) (by omega) (by omega), spec_in_f, Option.bind_some, h1, if_pos rfl, if_pos (by omega), h3, if_neg (by simp), wrap_nat _ (by omega)]
theorem isWd_okX (d : Int) (s : ByteArray) : ∀ n i, isWd d s n i = true → ∀ q : Nat, i ≤ q → q < i + n → 48 ≤ bt s q ∧ bt s q < 48 + d := by
  intro n
  induction n with
  | zero => intro i _ q h1 h2; omega
  | succ n ih =>
    intro i h q h1 h2
    rw [isWd] at h
    simp only [Bool.and_eq_true, decide_eq_true_eq] at h
    by_cases hq : q = i
    · subst hq; exact h.1
    · exact ih (i + 1) h.2 q (by omega) (by omega)
theorem terms_okX {d n : Int} : ∀ (p : Option ByteArray) (l : List S89), termsFrom d n p l = true → ∀ t ∈ l, termOk d n t = true
  | _, [], _, t, ht => by cases ht
  | p, u :: l, h, t, ht => by
    simp only [termsFrom, Bool.and_eq_true] at h
    rcases List.mem_cons.1 ht with rfl | ht
    · exact h.1.1
    · exact terms_okX _ l h.2 t ht
theorem ser_termsX {d n : Int} {l : List S89} (h : serOk d n l = true) : ∀ t ∈ l, TermX d.toNat n.toNat t := by
  unfold serOk at h
  simp only [Bool.and_eq_true] at h
  have hb := lvlOk_bounds h.1
  intro t ht
  have := terms_okX none l h.2 t ht
  unfold termOk at this
  simp only [Bool.and_eq_true, decide_eq_true_eq] at this
  refine ⟨fun i hi => ?_, by omega, this.2.1⟩
  have := isWd_okX d t.f0 t.f0.size 0 this.1.1 i (by omega) (by omega)
  omega
theorem partT_zeroX (ws : List ByteArray) (m : Nat) : ∀ q i, partT ws (List.replicate m (⟨0, 1⟩ : S27)) i q = []
  | 0, i => by simp [partT]
  | q + 1, i => by
    have ih := partT_zeroX ws m q (i + 1)
    unfold partT at ih ⊢
    rw [List.range'_succ, List.flatMap_cons, ih, List.append_nil]
    have : (rd_T27 (List.replicate m (⟨0, 1⟩ : S27)) (i : Int)).f0 = 0 := by
      by_cases h : i < m
      · simp [rd_T27, h]
      · simp [rd_T27, h, z27]
    rw [oneT, if_pos this]
/-- What both programs return. -/
def exchRes (d n : Int) (l : List S89) (ls : List Int) : Int × Int × List S89 × Int :=
  if serOk d n l = true then if (ls.length : Int) = d then if chkL d ls [] = true then (d, n, termsOf (allW d.toNat (n.toNat + 1) 0) (exP (allW d.toNat (n.toNat + 1) 0) ls l (List.replicate (allW d.toNat (n.toNat + 1) 0).length ⟨0, 1⟩)) (allW d.toNat (n.toNat + 1) 0).length, 0) else (0, 0, [], 2) else (0, 0, [], 2) else (0, 0, [], 1)
theorem ser_lvl {d n : Int} {l : List S89} (h : serOk d n l = true) : lvlOk d n = true ∧ termsFrom d n none l = true := by
  unfold serOk at h
  simpa using h
theorem exchRes_small (d n : Int) (l : List S89) (ls : List Int) : (exchRes d n l ls).2.2.1.length ≤ 1000 := by
  unfold exchRes
  by_cases h : serOk d n l = true
  · rw [if_pos h]
    have h2 := (ser_lvl h).1
    have hb := lvlOk_bounds h2
    have hw := (allW_length d.toNat n.toNat (by rw [show ((d.toNat : Nat) : Int) = d by omega, show ((n.toNat : Nat) : Int) = n by omega]; exact h2)).2
    split
    · split
      · dsimp only
        rw [termsOf_part]
        exact Nat.le_trans (partT_length _ _ _ _) hw
      · simp
    · simp
  · rw [if_neg h]; simp
theorem free_zero {D N : Nat} (hl : lvlOk (D : Int) (N : Int) = true) {ls : List Int} (hp : Perm1 D ls) (l : List S89) (hT : ∀ u ∈ l, TermX D N u) : ∀ u ∈ l, rd_T27 (List.replicate (allW D (N + 1) 0).length (⟨0, 1⟩ : S27)) (idxX (allW D (N + 1) 0) (exW ls u.f0) : Int) = ⟨0, 1⟩ := by
  intro u hu
  have hs := (hT u hu).size
  obtain ⟨a1, a2⟩ := ex_word hl hp (hT u hu)
  obtain ⟨i1, _, _⟩ := word_idx hl (exW ls u.f0) a1 (by omega)
  simp [rd_T27, i1]
theorem zero_ok (m : Nat) : okV (List.replicate m (⟨0, 1⟩ : S27)) := fun x hx => by rw [(List.mem_replicate.1 hx).2]; exact ok01
theorem spec_exch_f {d n : Int} {l : List S89} (hS : Small l) (ls : List Int) (hlb : ls.length ≤ 1048576) : Ev (fun k => spec_ExchangeLetters.f k d n l ls) (exchRes d n l ls) := by
  refine Ev.bind (f := fun (k : Nat) (t : Bool) => (if t = true then (if (ls.length : Int) = d then (spec_ExchangeLetters.l0 k ls 0 ([] : List Int) d n l) else (some (0, 0, ([] : List S89), 2))) else (some (0, 0, ([] : List S89), 1)))) (spec_is_f d n l hS) ?_
  unfold exchRes
  cases h : serOk d n l with
  | false => exact Ev.congr (fun k => if_neg (by simp)) (Ev.now _)
  | true =>
    refine Ev.congr (fun k => if_pos rfl) ?_
    rw [if_pos rfl]
    obtain ⟨h2, h3⟩ := ser_lvl h
    have hb := lvlOk_bounds h2
    by_cases hlen : (ls.length : Int) = d
    · rw [if_pos hlen]
      refine Ev.congr (fun k => if_pos hlen) ?_
      have hT := ser_termsX h
      obtain ⟨D, rfl⟩ : ∃ D : Nat, d = (D : Int) := ⟨d.toNat, by omega⟩
      obtain ⟨N, rfl⟩ : ∃ N : Nat, n = (N : Int) := ⟨n.toNat, by omega⟩
      simp only [Int.toNat_natCast] at hT ⊢
      by_cases hc : chkL (D : Int) ls [] = true
      · have hp := chk_perm D ls (by omega) (by omega) hlen hc
        have h1 := spec_l1_go h2 hp l hS.1 hT l.length 0 none (List.replicate (allW D (N + 1) 0).length ⟨0, 1⟩) (by omega) (by rw [List.drop_zero]; exact h3) (zero_ok _) (by simp) (by rw [List.drop_zero]; exact free_zero h2 hp l hT)
        rw [List.drop_zero, termsOf_part (allW D (N + 1) 0) (List.replicate _ _), partT_zeroX] at h1
        have h0 := spec_l0_go D N ls (by omega) (by omega) l h1 ls.length 0 [] (by omega)
        rw [List.drop_zero] at h0
        rw [if_pos hc] at h0 ⊢
        exact h0
      · rw [if_neg hc]
        exact spec_l0_bad D N ls (by omega) (by omega) l ls.length 0 [] (by omega) (by rw [List.drop_zero]; exact hc)
    · rw [if_neg hlen]
      exact Ev.congr (fun k => if_neg hlen) (Ev.now _)
theorem impl_exch_f {d n : Int} {l : List S89} (hS : Small l) (ls : List Int) (hlb : ls.length ≤ 1048576) : Ev (fun k => ExchangeLetters_f k d n l ls) (exchRes d n l ls) := by
  refine Ev.bind (f := fun (k : Nat) (b1 : Bool) => if b1 = true then if (ls.length : Int) = d then (contL k ls ls.length 0).bind fun b2 => if b2 = true then
    (impl_allWords.f k d n).bind fun ws => if 1 ≤ ws.length ∧ ws.length ≤ 1000 then (exchT k d ls l (List.replicate ws.length ⟨0, 1⟩) false).bind fun r => if r.1.length = ws.length then some (toldOf d n ws r.1 r.2) else none else none
    else some (0, 0, [], 2) else some (0, 0, [], 2) else some (0, 0, [], 1)) (impl_isSeries_f d n l hS) ?_
  unfold exchRes
  cases h : serOk d n l with
  | false => exact Ev.congr (fun k => if_neg (by simp)) (Ev.now _)
  | true =>
    refine Ev.congr (fun k => if_pos rfl) ?_
    rw [if_pos rfl]
    obtain ⟨h2, h3⟩ := ser_lvl h
    have hb := lvlOk_bounds h2
    by_cases hlen : (ls.length : Int) = d
    · rw [if_pos hlen]
      refine Ev.congr (fun k => if_pos hlen) ?_
      have hc := contL_ev ls hlb ls.length 0
      rw [has_chk d ls (by omega) (by omega) hlen] at hc
      refine Ev.bind (f := fun (k : Nat) (b2 : Bool) => if b2 = true then
        (impl_allWords.f k d n).bind fun ws => if 1 ≤ ws.length ∧ ws.length ≤ 1000 then (exchT k d ls l (List.replicate ws.length ⟨0, 1⟩) false).bind fun r => if r.1.length = ws.length then some (toldOf d n ws r.1 r.2) else none else none
        else some (0, 0, [], 2)) hc ?_
      cases hk : chkL d ls [] with
      | false =>
        rw [if_neg (by simp)]
        exact Ev.congr (fun k => if_neg (by simp)) (Ev.now _)
      | true =>
        rw [if_pos rfl]
        refine Ev.congr (fun k => if_pos rfl) ?_
        have hT := ser_termsX h
        obtain ⟨D, rfl⟩ : ∃ D : Nat, d = (D : Int) := ⟨d.toNat, by omega⟩
        obtain ⟨N, rfl⟩ : ∃ N : Nat, n = (N : Int) := ⟨n.toNat, by omega⟩
        simp only [Int.toNat_natCast] at hT ⊢
        have hp := chk_perm D ls (by omega) (by omega) hlen hk
        have hw := allW_length D N h2
        have ha : Ev (fun k => impl_allWords.f k (D : Int) (N : Int)) (allW D (N + 1) 0) := ⟨30000, fun k hk => impl_allWords_f k D N (by omega) (by omega) hk⟩
        have hm := exchT_ev h2 hp l none (List.replicate (allW D (N + 1) 0).length ⟨0, 1⟩) h3 hT (by simp) (free_zero h2 hp l hT)
        have hel : (exP (allW D (N + 1) 0) ls l (List.replicate (allW D (N + 1) 0).length ⟨0, 1⟩)).length = (allW D (N + 1) 0).length := by rw [exP_length]; simp
        refine Ev.bind (f := fun (k : Nat) (ws : List ByteArray) => if 1 ≤ ws.length ∧ ws.length ≤ 1000 then (exchT k (D : Int) ls l (List.replicate ws.length ⟨0, 1⟩) false).bind fun (r : List S27 × Bool) => if r.1.length = ws.length then some (toldOf (D : Int) (N : Int) ws r.1 r.2) else none else none) ha ?_
        refine Ev.congr (fun k => if_pos hw) ?_
        refine Ev.bind (f := fun (_ : Nat) (r : List S27 × Bool) => if r.1.length = (allW D (N + 1) 0).length then some (toldOf (D : Int) (N : Int) (allW D (N + 1) 0) r.1 r.2) else none) hm ?_
        exact Ev.congr (fun k => if_pos hel) (Ev.now _)
    · rw [if_neg hlen]
      exact Ev.congr (fun k => if_neg hlen) (Ev.now _)
end Go.Proofs.Ytcklefgkbddlhaa.Pure
