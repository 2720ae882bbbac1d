/- Plain lemmas: is a series one, as both programs ask it? -/
import Derived.Test.YtcklefgkbddlhaaPx6
import Derived.Test.YtcklefgkbddlhaaPx5
import Derived.Test.YtcklefgkbddlhaaPx10
import Derived.Test.YtcklefgkbddlhaaPx12
import Derived.Test.YtcklefgkbddlhaaBaseLvlV
import Derived.Test.YtcklefgkbddlhaaBaseSerQ
import Derived.Lib.Bytealg
import Derived.Lib.Strings
namespace Go.Proofs.Ytcklefgkbddlhaa.Pure
open Go.RowKit Go.Proofs.Ytcklefgkbddlhaa.P Go.Proofs.YtcklefgkbddlhaaW.PrintWords Go.Proofs.YtcklefgkbddlhaaW.PrintLast
set_option linter.unusedVariables false
set_option linter.unusedSimpArgs false

/-- All bytes are letters. -/
def isWd (d : Int) (s : ByteArray) : Nat → Nat → Bool
  | 0, _ => true
  | n + 1, i => (decide (48 ≤ bt s i) && decide (bt s i < 48 + d)) && isWd d s n (i + 1)
theorem spec_word_l0 (d : Int) (hd : 1 ≤ d) (hd3 : d ≤ 3) (s : ByteArray) (hs : s.size ≤ 1048576) : ∀ n k i, i + n = s.size → n < k → spec_l01Word.l0 k d s (i : Int) = some (isWd d s n i) := by
  intro n
  induction n with
  | zero =>
    intro k i h hk
    obtain ⟨k, rfl⟩ : ∃ m, k = m + 1 := ⟨k - 1, by omega⟩
    rw [spec_l01Word.l0, if_neg (by omega)]; rfl
  | succ n ih =>
    intro k i h hk
    obtain ⟨k, rfl⟩ : ∃ m, k = m + 1 := ⟨k - 1, by omega⟩
    have hb := bt_range s i
    rw [spec_l01Word.l0, if_pos (by omega), if_pos (by omega), wrap_nat _ (by omega), ih k (i + 1) (by omega) (by omega), isWd]
    by_cases h1 : bt s i < 48
    · rw [if_pos h1, decide_eq_false (by omega : ¬ 48 ≤ bt s i)]; rfl
    · rw [if_neg h1, decide_eq_true (by omega : 48 ≤ bt s i)]
      by_cases h2 : (bt s i - 48) % 256 ≥ d
      · rw [if_pos h2, decide_eq_false (by omega : ¬ bt s i < 48 + d)]; rfl
      · rw [if_neg h2, decide_eq_true (by omega : bt s i < 48 + d)]; simp
theorem impl_word_l0 (d : Int) (hd : 1 ≤ d) (hd3 : d ≤ 3) (s : ByteArray) (hs : s.size ≤ 1048576) (m : Int) : ∀ n k i, i + n = s.size → n < k → impl_isWord.l0 k d s m (s.size : Int) (i : Int) = some (isWd d s n i && decide ((s.size : Int) ≤ m)) := by
  intro n
  induction n with
  | zero =>
    intro k i h hk
    obtain ⟨k, rfl⟩ : ∃ m, k = m + 1 := ⟨k - 1, by omega⟩
    rw [impl_isWord.l0, if_neg (by omega)]; rfl
  | succ n ih =>
    intro k i h hk
    obtain ⟨k, rfl⟩ : ∃ m, k = m + 1 := ⟨k - 1, by omega⟩
    have hb := bt_range s i
    rw [impl_isWord.l0, if_pos (by omega), if_pos (by omega), if_pos (by omega), wrap_nat _ (by omega), wrap_of (bt s i) (by omega) (by omega), wrap_of (48 + d) (by omega) (by omega), ih k (i + 1) (by omega) (by omega), isWd]
    by_cases h1 : bt s i < 48
    · rw [if_pos h1, decide_eq_false (by omega : ¬ 48 ≤ bt s i)]; rfl
    · rw [if_neg h1, decide_eq_true (by omega : 48 ≤ bt s i)]
      by_cases h2 : bt s i ≥ 48 + d
      · rw [if_pos h2, decide_eq_false (by omega : ¬ bt s i < 48 + d)]; rfl
      · rw [if_neg h2, decide_eq_true (by omega : bt s i < 48 + d)]; simp
theorem spec_word_f (d : Int) (hd : 1 ≤ d) (hd3 : d ≤ 3) (s : ByteArray) (hs : s.size ≤ 1048576) : Ev (fun k => spec_l01Word.f k d s) (isWd d s s.size 0) :=
  ⟨s.size + 1, fun k hk => spec_word_l0 d hd hd3 s hs s.size k 0 (by omega) (by omega)⟩
theorem impl_word_f (d : Int) (hd : 1 ≤ d) (hd3 : d ≤ 3) (s : ByteArray) (hs : s.size ≤ 1048576) (m : Int) : Ev (fun k => impl_isWord.f k d s m) (isWd d s s.size 0 && decide ((s.size : Int) ≤ m)) :=
  ⟨s.size + 1, fun k hk => impl_word_l0 d hd hd3 s hs m s.size k 0 (by omega) (by omega)⟩
theorem cmp_less : ∀ a b : List UInt8, decide (Lib.compareBytes a b ≥ 0) = !(Op.bytesLess a b)
  | [], [] => rfl
  | [], _ :: _ => rfl
  | _ :: _, [] => rfl
  | a :: ar, b :: br => by
    have ih := cmp_less ar br
    unfold Lib.compareBytes Op.bytesLess
    by_cases h : a < b
    · simp [h]
    · by_cases h2 : b < a
      · have h3 : ¬ a = b := fun e => by subst e; exact h h2
        simp [h, h2, h3]
      · have h3 : a = b := UInt8.le_antisymm (UInt8.not_lt.1 h2) (UInt8.not_lt.1 h)
        subst h3
        simp [h]
        simpa using ih
theorem compare_before (v w : ByteArray) (hv : v.size ≤ 1048576) (hw : w.size ≤ 1048576) : ∃ t, impl_compareWords.f v w = some t ∧ (t ≥ 0 ↔ befW v w = false) := by
  refine ⟨_, rfl, ?_⟩
  unfold befW
  by_cases h : v.size = w.size
  · rw [if_pos h, if_pos h]
    have := cmp_less v.data.toList w.data.toList
    rw [ByteArray.toList_eq v, ByteArray.toList_eq w]
    constructor
    · intro h1
      rw [decide_eq_true h1] at this
      cases hh : Op.bytesLess v.data.toList w.data.toList with
      | true => rw [hh] at this; cases this
      | false => rfl
    · intro h1
      rw [h1] at this
      exact of_decide_eq_true this
  · rw [if_neg h, if_neg h, wrap_of _ (by omega) (by omega), decide_eq_false_iff_not]
    omega
def termOk (d n : Int) (t : S89) : Bool := (isWd d t.f0 t.f0.size 0 && decide ((t.f0.size : Int) ≤ n)) && (fitF t.f1.f0 t.f1.f1 && decide (t.f1.f0 ≠ 0))
def prevOk (v : Option ByteArray) (w : ByteArray) : Bool := match v with | none => true | some v => befW v w
def termsFrom (d n : Int) : Option ByteArray → List S89 → Bool
  | _, [] => true
  | p, t :: l => termOk d n t && prevOk p t.f0 && termsFrom d n (some t.f0) l
def prevAt (l : List S89) : Nat → Option ByteArray
  | 0 => none
  | i + 1 => (l[i]?).map (·.f0)
def serOk (d n : Int) (l : List S89) : Bool := lvlOk d n && termsFrom d n none l
/-- Words that are not too long. -/
def Small (l : List S89) : Prop := l.length ≤ 1048576 ∧ ∀ t ∈ l, t.f0.size ≤ 1048576
section
variable (d n : Int) (hd : 1 ≤ d) (hd3 : d ≤ 3) (l : List S89) (hl : Small l)
include hd hd3 hl
theorem spec_terms : ∀ e i, i + e = l.length → Ev (fun k => spec_l01Is.l0 k (i : Int) d n l) (termsFrom d n (prevAt l i) (l.drop i)) := by
  have hll := hl.1
  intro e
  induction e with
  | zero =>
    intro i hi
    refine Ev.step (f := fun _ => some true) (fun k => ?_) ?_
    · simp only [spec_l01Is.l0]
      rw [if_neg (by omega)]
    · rw [List.drop_of_length_le (by omega)]
      exact Ev.now _
  | succ e ih =>
    intro i hi
    have hlt : i < l.length := by omega
    have hsz := hl.2 l[i] (List.getElem_mem _)
    rw [List.drop_eq_getElem_cons hlt, termsFrom]
    have hw := spec_word_f d hd hd3 l[i].f0 hsz
    have hf := spec_isFrac_f l[i].f1.f0 l[i].f1.f1
    have hj : Ev (fun k => spec_l01Is.j1 k (i : Int) (!(termOk d n l[i])) d n l l[i].f0 l[i].f1.f0 l[i].f1.f1) (termOk d n l[i] && prevOk (prevAt l i) l[i].f0 && termsFrom d n (some l[i].f0) (l.drop (i + 1))) := by
      cases ht : termOk d n l[i] with
      | false =>
        refine Ev.step (f := fun _ => some false) (fun k => ?_) (Ev.now _)
        simp only [spec_l01Is.j1, Bool.not_false, if_true]
      | true =>
        have hn : prevAt l (i + 1) = some l[i].f0 := by simp [prevAt, hlt]
        have h := ih (i + 1) (by omega)
        rw [hn] at h
        cases i with
        | zero =>
          refine Ev.step (fun k => ?_) (show Ev (fun k => spec_l01Is.l0 k ((0 + 1 : Nat) : Int) d n l) _ from h)
          simp only [spec_l01Is.j1, Bool.not_true, Bool.false_eq_true, if_false]
          rw [if_neg (by omega), wrap_nat _ (by omega)]
        | succ j =>
          have e1 : wrap64 (((j + 1 : Nat) : Int) - 1) = (j : Int) := by rw [wrap_of _ (by omega) (by omega)]; omega
          have hp : prevAt l (j + 1) = some l[j].f0 := by simp [prevAt, show j < l.length by omega]
          rw [hp, Bool.true_and, prevOk]
          cases hb : befW l[j].f0 l[j + 1].f0 with
          | false =>
            refine Ev.step (f := fun _ => some false) (fun k => ?_) (Ev.now _)
            simp only [spec_l01Is.j1, Bool.not_true, Bool.false_eq_true, if_false]
            rw [if_pos (by omega), e1, if_pos (by omega), if_pos (by omega), rdI_nat l j (by omega), spec_before_f, hb, Option.bind_some, if_neg (by decide)]
          | true =>
            refine Ev.step (fun k => ?_) (show Ev (fun k => spec_l01Is.l0 k ((j + 1 + 1 : Nat) : Int) d n l) _ from h)
            simp only [spec_l01Is.j1, Bool.not_true, Bool.false_eq_true, if_false]
            rw [if_pos (by omega), e1, if_pos (by omega), if_pos (by omega), rdI_nat l j (by omega), spec_before_f, hb, Option.bind_some, if_pos rfl, wrap_nat _ (by omega)]
    by_cases hs : (l[i].f0.size : Int) > n
    · have ht : termOk d n l[i] = false := by
        unfold termOk
        rw [decide_eq_false (show ¬ (l[i].f0.size : Int) ≤ n by omega), Bool.and_false, Bool.false_and]
      rw [ht, Bool.not_false] at hj
      rw [ht]
      refine Ev.step (fun k => ?_) hj
      simp only [spec_l01Is.l0]
      rw [if_pos (by omega), if_pos (by omega), rdI_nat l i hlt, if_pos hs]
    · refine Ev.step (f := fun k => (spec_l01Word.f k d l[i].f0).bind fun t => (if t = true then ((spec_l01IsFrac.f k l[i].f1.f0 l[i].f1.f1).bind fun t => (if t = true then ((spec_l01Zero.f l[i].f1.f0 l[i].f1.f1).bind fun t => spec_l01Is.j1 k (i : Int) t d n l l[i].f0 l[i].f1.f0 l[i].f1.f1) else spec_l01Is.j1 k (i : Int) true d n l l[i].f0 l[i].f1.f0 l[i].f1.f1)) else spec_l01Is.j1 k (i : Int) true d n l l[i].f0 l[i].f1.f0 l[i].f1.f1)) (fun k => ?_) ?_
      · simp only [spec_l01Is.l0]
        rw [if_pos (by omega), if_pos (by omega), rdI_nat l i hlt, if_neg hs]
      refine Ev.bind hw ?_
      cases hW : isWd d l[i].f0 l[i].f0.size 0 with
      | false =>
        have ht : termOk d n l[i] = false := by unfold termOk; rw [hW]; rfl
        rw [ht, Bool.not_false] at hj
        rw [ht]
        exact Ev.congr (fun k => if_neg (by decide)) hj
      | true =>
        refine Ev.congr (fun k => if_pos rfl) (Ev.bind hf ?_)
        cases hF : fitF l[i].f1.f0 l[i].f1.f1 with
        | false =>
          have ht : termOk d n l[i] = false := by unfold termOk; rw [hF]; simp
          rw [ht, Bool.not_false] at hj
          rw [ht]
          exact Ev.congr (fun k => if_neg (by decide)) hj
        | true =>
          refine Ev.congr (fun k => ?_) hj
          rw [if_pos rfl]
          unfold spec_l01Zero.f
          rw [Option.bind_some]
          have ht : (!(termOk d n l[i])) = (l[i].f1.f0 == 0) := by
            unfold termOk
            rw [hW, hF, decide_eq_true (show (l[i].f0.size : Int) ≤ n by omega)]
            by_cases h0 : l[i].f1.f0 = 0 <;> simp [h0]
          rw [ht]
theorem impl_terms : ∀ e i, i + e = l.length → Ev (fun k => impl_areTerms.l0 k d n l l (l.length : Int) (i : Int)) (termsFrom d n (prevAt l i) (l.drop i)) := by
  have hll := hl.1
  intro e
  induction e with
  | zero =>
    intro i hi
    refine Ev.step (f := fun _ => some true) (fun k => ?_) ?_
    · simp only [impl_areTerms.l0]
      rw [if_neg (by omega)]
    · rw [List.drop_of_length_le (by omega)]
      exact Ev.now _
  | succ e ih =>
    intro i hi
    have hlt : i < l.length := by omega
    have hsz := hl.2 l[i] (List.getElem_mem _)
    rw [List.drop_eq_getElem_cons hlt, termsFrom]
    have hw := impl_word_f d hd hd3 l[i].f0 hsz n
    have hf := impl_isFraction_f l[i].f1.f0 l[i].f1.f1
    have hn : prevAt l (i + 1) = some l[i].f0 := by simp [prevAt, hlt]
    have h := ih (i + 1) (by omega)
    rw [hn] at h
    refine Ev.step (f := fun k => (impl_isWord.f k d l[i].f0 n).bind fun t => (if t = true then ((impl_IsFraction.f k l[i].f1.f0 l[i].f1.f1).bind fun t => (if t = true then (if l[i].f1.f0 = 0 then (some false) else (if (i : Int) > 0 then (if 0 ≤ (wrap64 ((i : Int) - 1)) then (if (wrap64 ((i : Int) - 1)) < (l.length : Int) then ((impl_compareWords.f ((rd_T89 l (wrap64 ((i : Int) - 1))).f0) l[i].f0).bind fun t => (if t ≥ 0 then (some false) else (impl_areTerms.l0 k d n l l (l.length : Int) ((i + 1 : Nat) : Int)))) else (none)) else (none)) else (impl_areTerms.l0 k d n l l (l.length : Int) ((i + 1 : Nat) : Int)))) else (some false))) else (some false))) (fun k => ?_) ?_
    · simp only [impl_areTerms.l0]
      rw [if_pos (by omega), if_pos (by omega), if_pos (by omega), rdI_nat l i hlt, wrap_nat _ (by omega)]
    refine Ev.bind hw ?_
    unfold termOk
    cases hW : (isWd d l[i].f0 l[i].f0.size 0 && decide ((l[i].f0.size : Int) ≤ n)) with
    | false => exact Ev.congr (f := fun _ => some false) (fun k => if_neg (by decide)) (Ev.now _)
    | true =>
      refine Ev.congr (fun k => if_pos rfl) (Ev.bind hf ?_)
      cases hF : fitF l[i].f1.f0 l[i].f1.f1 with
      | false => exact Ev.congr (f := fun _ => some false) (fun k => if_neg (by decide)) (Ev.now _)
      | true =>
        by_cases h0 : l[i].f1.f0 = 0
        · refine Ev.congr (f := fun _ => some false) (fun k => by rw [if_pos rfl, if_pos h0]) ?_
          rw [h0]
          exact Ev.now _
        · rw [decide_eq_true h0]
          cases i with
          | zero =>
            refine Ev.congr (fun k => ?_) (show Ev (fun k => impl_areTerms.l0 k d n l l (l.length : Int) ((0 + 1 : Nat) : Int)) _ from h)
            rw [if_pos rfl, if_neg h0, if_neg (by omega)]
          | succ j =>
            have e1 : wrap64 (((j + 1 : Nat) : Int) - 1) = (j : Int) := by rw [wrap_of _ (by omega) (by omega)]; omega
            have hp : prevAt l (j + 1) = some l[j].f0 := by simp [prevAt, show j < l.length by omega]
            obtain ⟨t, ht, hc⟩ := compare_before l[j].f0 l[j + 1].f0 (hl.2 _ (List.getElem_mem _)) hsz
            rw [hp, prevOk]
            cases hb : befW l[j].f0 l[j + 1].f0 with
            | false =>
              refine Ev.congr (f := fun _ => some false) (fun k => ?_) (Ev.now _)
              rw [if_pos rfl, if_neg h0, if_pos (by omega), e1, if_pos (by omega), if_pos (by omega), rdI_nat l j (by omega), ht, Option.bind_some, if_pos (hc.2 hb)]
            | true =>
              refine Ev.congr (fun k => ?_) (show Ev (fun k => impl_areTerms.l0 k d n l l (l.length : Int) ((j + 1 + 1 : Nat) : Int)) _ from h)
              rw [if_pos rfl, if_neg h0, if_pos (by omega), e1, if_pos (by omega), if_pos (by omega), rdI_nat l j (by omega), ht, Option.bind_some, if_neg (fun hh => by rw [hc.1 hh] at hb; cases hb)]
end
theorem spec_is_f (d n : Int) (l : List S89) (hl : Small l) : Ev (fun k => spec_l01Is.f k d n l) (serOk d n l) := by
  unfold spec_l01Is.f serOk
  simp only [spec_sizes_f, Option.bind_some]
  cases h : lvlOk d n with
  | false => exact Ev.now _
  | true =>
    have hb := lvlOk_bounds h
    exact Ev.congr (fun k => if_pos rfl) (spec_terms d n hb.1 hb.2.1 l hl l.length 0 (by omega))
theorem impl_isSeries_f (d n : Int) (l : List S89) (hl : Small l) : Ev (fun k => impl_IsSeries.f k d n l) (serOk d n l) := by
  unfold impl_IsSeries.f serOk
  simp only [impl_isLevel_f, Option.bind_some]
  cases h : lvlOk d n with
  | false => exact Ev.now _
  | true =>
    have hb := lvlOk_bounds h
    refine Ev.congr (fun k => if_pos rfl) (Ev.bind (f := fun _ t => some t) (show Ev (fun k => impl_areTerms.f k d n l) _ from impl_terms d n hb.1 hb.2.1 l hl l.length 0 (by omega)) (Ev.now _))
end Go.Proofs.Ytcklefgkbddlhaa.Pure
