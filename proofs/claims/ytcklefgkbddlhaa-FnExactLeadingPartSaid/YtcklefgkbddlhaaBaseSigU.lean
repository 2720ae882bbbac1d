/- Plain lemmas: sums over the words before a word's parts, in the order of all words. -/
import Derived.Test.YtcklefgkbddlhaaBaseSigT
namespace Go.Proofs.Ytcklefgkbddlhaa.Pure
open Go.RowKit Go.Proofs.Ytcklefgkbddlhaa.P Go.Proofs.Ytcklefgkbddlhaa.Tab Go.Proofs.YtcklefgkbddlhaaW.PrintWords Go.Proofs.YtcklefgkbddlhaaW.PrintLast
set_option linter.unusedVariables false
set_option linter.unusedSimpArgs false

/-- What a word brings to another one. -/
def addT (A B : List UInt8 → Int) (v w : List UInt8) : Int := if v.length ≤ w.length ∧ w.take v.length = v then (bin w.length v.length : Int) * (A v * B (w.drop v.length)) else 0
def sumT (A B : List UInt8 → Int) : List ByteArray → List UInt8 → Int
  | [], _ => 0
  | v :: l, w => addT A B v.toList w + sumT A B l w
theorem sumT_append (A B : List UInt8 → Int) (w : List UInt8) : ∀ l r, sumT A B (l ++ r) w = sumT A B l w + sumT A B r w
  | [], r => by simp [sumT]
  | v :: l, r => by rw [List.cons_append, sumT, sumT, sumT_append A B w l r, Int.add_assoc]
/-- The words of one length bring one part, or none. -/
theorem sumT_len (A B : List UInt8 → Int) (w : List UInt8) (q : Nat) : ∀ l : List ByteArray, (∀ v ∈ l, v.size = q) → l.Nodup → sumT A B l w = if q ≤ w.length ∧ ∃ v ∈ l, v.toList = w.take q then (bin w.length q : Int) * (A (w.take q) * B (w.drop q)) else 0
  | [], _, _ => by
    rw [if_neg (fun h => by obtain ⟨_, v, hv, _⟩ := h; cases hv)]
    rfl
  | u :: l, hs, hn => by
    have hu : u.toList.length = q := by rw [tl_length]; exact hs u (List.mem_cons_self ..)
    rw [sumT, sumT_len A B w q l (fun v hv => hs v (List.mem_cons_of_mem _ hv)) (List.nodup_cons.1 hn).2]
    unfold addT
    rw [hu]
    by_cases h : q ≤ w.length
    · by_cases he : u.toList = w.take q
      · rw [if_pos ⟨h, he.symm⟩, if_neg (fun h2 => ?_), if_pos ⟨h, u, List.mem_cons_self .., he⟩, he, Int.add_zero]
        obtain ⟨_, v, hv, hv2⟩ := h2
        have : v = u := tl_inj (hv2.trans he.symm)
        exact (List.nodup_cons.1 hn).1 (this ▸ hv)
      · rw [if_neg (fun h2 => he h2.2.symm), Int.zero_add]
        by_cases h3 : ∃ v ∈ l, v.toList = w.take q
        · obtain ⟨v, hv, hv2⟩ := h3
          rw [if_pos ⟨h, v, hv, hv2⟩, if_pos ⟨h, v, List.mem_cons_of_mem _ hv, hv2⟩]
        · rw [if_neg (fun h2 => h3 h2.2), if_neg (fun h2 => ?_)]
          obtain ⟨_, v, hv, hv2⟩ := h2
          rcases List.mem_cons.1 hv with rfl | hv
          · exact he hv2
          · exact h3 ⟨v, hv, hv2⟩
    · rw [if_neg (fun h2 => h h2.1), if_neg (fun h2 => h h2.1), if_neg (fun h2 => h h2.1)]; rfl
theorem wordsN_nodup (D : Nat) (hD : D ≤ 3) (q : Nat) : (wordsN D q).Nodup := (wordsN_asc D hD q).imp (fun {a b} h e => by subst e; rw [bef_irr] at h; cases h)
theorem take_mem (D : Nat) (w : ByteArray) (hw : okW D w) (q : Nat) (hq : q ≤ w.size) : ∃ v ∈ wordsN D q, v.toList = w.toList.take q :=
  ⟨w.extract 0 q, word_mem D q _ (okW_left hw q) (by rw [← tl_length, tl_left, List.length_take, tl_length]; omega), tl_left w q⟩
theorem sumT_part (A B : List UInt8 → Int) (D : Nat) (hD : D ≤ 3) (w : ByteArray) (q : Nat) (pre suf : List ByteArray) (h : pre ++ suf = wordsN D q) : ∃ i, i ≤ w.size + 1 ∧ cv A B w.toList (min q (w.size + 1)) + sumT A B pre w.toList = cv A B w.toList i := by
  have hn := wordsN_nodup D hD q
  rw [← h] at hn
  rw [sumT_len A B w.toList q pre (fun v hv => wordsN_size D q v (by rw [← h]; exact List.mem_append_left _ hv)) (List.nodup_append.1 hn).1, tl_length]
  split
  · rename_i hq
    refine ⟨q + 1, by omega, ?_⟩
    rw [Nat.min_eq_left (by omega), cv, tl_length]
  · exact ⟨min q (w.size + 1), by omega, Int.add_zero _⟩
section
variable (A B : List UInt8 → Int) (D : Nat) (hD : D ≤ 3) (w : ByteArray) (hw : okW D w)
include hD hw
theorem sumT_words (q : Nat) : cv A B w.toList (min q (w.size + 1)) + sumT A B (wordsN D q) w.toList = cv A B w.toList (min (q + 1) (w.size + 1)) := by
  rw [sumT_len A B w.toList q (wordsN D q) (fun v hv => wordsN_size D q v hv) (wordsN_nodup D hD q), tl_length]
  by_cases h : q ≤ w.size
  · rw [if_pos ⟨h, take_mem D w hw q h⟩, Nat.min_eq_left (by omega), Nat.min_eq_left (by omega), cv, tl_length]
  · rw [if_neg (fun h2 => h h2.1), Int.add_zero, Nat.min_eq_right (by omega), Nat.min_eq_right (by omega)]
theorem sumT_all : ∀ e m, cv A B w.toList (min m (w.size + 1)) + sumT A B (allW D e m) w.toList = cv A B w.toList (min (m + e) (w.size + 1))
  | 0, m => by rw [allW, sumT, Int.add_zero]; rfl
  | e + 1, m => by
    rw [allW, sumT_append, ← Int.add_assoc, sumT_words A B D hD w hw m, sumT_all e (m + 1)]
    congr 2
    omega
theorem sumT_pre : ∀ e m (pre suf : List ByteArray), pre ++ suf = allW D e m → ∃ i, i ≤ w.size + 1 ∧ cv A B w.toList (min m (w.size + 1)) + sumT A B pre w.toList = cv A B w.toList i
  | 0, m, pre, suf, h => by
    rw [allW, List.append_eq_nil_iff] at h
    rw [h.1]
    exact ⟨min m (w.size + 1), by omega, Int.add_zero _⟩
  | e + 1, m, pre, suf, h => by
    rw [allW, List.append_eq_append_iff] at h
    rcases h with ⟨c, h1, h2⟩ | ⟨c, h1, h2⟩
    · exact sumT_part A B D hD w m pre c h1.symm
    · obtain ⟨i, hi, e1⟩ := sumT_pre e (m + 1) c suf h2.symm
      refine ⟨i, hi, ?_⟩
      rw [h1, sumT_append, ← Int.add_assoc, sumT_words A B D hD w hw m]
      exact e1
end
end Go.Proofs.Ytcklefgkbddlhaa.Pure
