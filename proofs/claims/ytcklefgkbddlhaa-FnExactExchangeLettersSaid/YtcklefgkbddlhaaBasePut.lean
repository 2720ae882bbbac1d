/- Plain lemmas: a fraction is put into ascending terms. -/
import Derived.Test.YtcklefgkbddlhaaPx8
import Derived.Test.YtcklefgkbddlhaaBaseSerQ
import Derived.Test.YtcklefgkbddlhaaBaseFrQ
namespace Go.Proofs.Ytcklefgkbddlhaa.Pure
open Go.RowKit Go.Proofs.Ytcklefgkbddlhaa.P Go.Proofs.YtcklefgkbddlhaaW.PrintWords Go.Proofs.YtcklefgkbddlhaaW.PrintLast
set_option linter.unusedVariables false
set_option linter.unusedSimpArgs false

/-- A term, if its value is not 0. -/
def oneT (w : ByteArray) (a : S27) : List S89 := if a.f0 = 0 then [] else [⟨w, a⟩]
theorem oneT_length (w : ByteArray) (a : S27) : (oneT w a).length ≤ 1 := by unfold oneT; split <;> simp
theorem spec_zero_f (a b : Int) : spec_l01Zero.f a b = some (decide (a = 0)) := by
  unfold spec_l01Zero.f
  by_cases h : a = 0 <;> simp [h]
theorem put_j1 (T1 T2 : List S89) (w : ByteArray) (a : S27) (h1 : T1.length ≤ 1000000) (h2 : T2.length ≤ 1000000) (hne : ∀ t ∈ T2.head?, t.f0.toList ≠ w.toList) :
    Ev (fun k => spec_l01Put.j1 k (T1 ++ T2) w (T1.length : Int) a.f0 a.f1) (T1 ++ oneT w a ++ T2, true) := by
  have hT : ((T1 ++ T2).length : Int) = (T1.length : Int) + (T2.length : Int) := by simp
  refine Ev.step (f := fun k => spec_l01Put.j2 k (T1 ++ T2) w (T1.length : Int) T1 false a.f0 a.f1) (fun k => ?_) ?_
  · rw [spec_l01Put.j1, Option.bind_some, if_pos (by omega), if_pos (by omega), Option.bind_some, Int.toNat_natCast, List.take_left, List.nil_append, if_pos (by simp; omega), Option.bind_some]
    by_cases hl : T2.length = 0
    · rw [if_neg (by omega)]
    · rw [if_pos (by omega)]
      obtain ⟨t, T3, rfl⟩ := List.exists_cons_of_ne_nil (List.length_pos_iff.1 (by omega : 0 < T2.length))
      have e : (rd_T89 (T1 ++ t :: T3) (T1.length : Int)).f0 = t.f0 := by simp [rd_T89]
      rw [e, show (t.f0.toList == w.toList) = false from beq_eq_false_iff_ne.2 (hne t rfl)]
  · refine Ev.step (f := fun _ => some (T1 ++ oneT w a ++ T2, true)) (fun k => ?_) (Ev.now _)
    rw [spec_l01Put.j2, if_neg (by simp), spec_zero_f, Option.bind_some]
    by_cases hz : a.f0 = 0
    · rw [if_pos (by simpa using hz), if_pos (by omega), if_pos (by omega), Option.bind_some, Int.toNat_natCast, List.drop_left, if_pos (by omega), oneT, if_pos hz, List.append_nil]
    · rw [if_neg (by simpa using hz), if_pos (by omega), Option.bind_some, if_pos (by omega), if_pos (by omega), Option.bind_some, Int.toNat_natCast, List.drop_left, if_pos (by simp; omega), oneT, if_neg hz]
theorem put_j1_eq (T1 T2 : List S89) (w : ByteArray) (a b : S27) (h1 : T1.length ≤ 1000000) (h2 : T2.length ≤ 1000000) (ha : okF2 a) (hb : okF2 b) :
    Ev (fun k => spec_l01Put.j1 k (T1 ++ ⟨w, b⟩ :: T2) w (T1.length : Int) a.f0 a.f1) (if fitF (plusF b a).f0 (plusF b a).f1 = true then (T1 ++ oneT w (plusF b a) ++ T2, true) else ([], false)) := by
  have hT : ((T1 ++ (⟨w, b⟩ : S89) :: T2).length : Int) = (T1.length : Int) + ((T2.length : Int) + 1) := by simp
  have e : rd_T89 (T1 ++ (⟨w, b⟩ : S89) :: T2) (T1.length : Int) = ⟨w, b⟩ := by simp [rd_T89]
  refine Ev.step (f := fun k => spec_l01Put.j2 k (T1 ++ ⟨w, b⟩ :: T2) w (T1.length : Int) T1 true a.f0 a.f1) (fun k => ?_) ?_
  · rw [spec_l01Put.j1, Option.bind_some, if_pos (by omega), if_pos (by omega), Option.bind_some, Int.toNat_natCast, List.take_left, List.nil_append, if_pos (by simp; omega), Option.bind_some, if_pos (by omega), e]
    simp
  · have hd : List.drop (T1.length + 1) (T1 ++ (⟨w, b⟩ : S89) :: T2) = T2 := by
      rw [List.drop_append]; simp
    refine Ev.step (f := fun k => (spec_l01Plus.f k b.f0 b.f1 a.f0 a.f1).bind fun bt => (if bt.2.2 = true then (if bt.1 = 0 then some (T1 ++ T2, true) else some (T1 ++ [(⟨w, ⟨bt.1, bt.2.1⟩⟩ : S89)] ++ T2, true)) else (some (([] : List S89), false)))) (fun k => ?_) ?_
    · rw [spec_l01Put.j2, if_pos rfl, if_pos (by omega), if_pos (by omega), e]
      dsimp only
      cases hp : spec_l01Plus.f k b.f0 b.f1 a.f0 a.f1 with
      | none => rfl
      | some bt =>
        refine Eq.trans (Option.bind_some _ _) (Eq.trans ?_ (Option.bind_some _ _).symm)
        by_cases hf : bt.2.2 = true
        · rw [if_pos hf, if_pos hf, spec_zero_f, Option.bind_some, wrap_nat _ (by omega)]
          by_cases hz : bt.1 = 0
          · rw [if_pos (by simpa using hz), if_pos (by omega), if_pos (by omega), Option.bind_some, Int.toNat_natCast, hd, if_pos (by omega), if_pos hz]
          · rw [if_neg (by simpa using hz), if_pos (by omega), Option.bind_some, if_pos (by omega), if_pos (by omega), Option.bind_some, Int.toNat_natCast, hd, if_pos (by simp; omega), if_neg hz]
        · rw [if_neg hf, if_neg hf]
    · refine Ev.bind (f := fun _ bt => (if bt.2.2 = true then (if bt.1 = 0 then some (T1 ++ T2, true) else some (T1 ++ [(⟨w, ⟨bt.1, bt.2.1⟩⟩ : S89)] ++ T2, true)) else (some (([] : List S89), false)))) (spec_plus_f b a hb ha) ?_
      by_cases hf : fitF (plusF b a).f0 (plusF b a).f1 = true
      · rw [if_pos hf, if_pos hf]
        refine Ev.congr (f := fun _ => some (T1 ++ oneT w (plusF b a) ++ T2, true)) (fun k => ?_) (Ev.now _)
        dsimp only
        rw [if_pos rfl]
        by_cases hz : (plusF b a).f0 = 0
        · rw [if_pos hz, oneT, if_pos hz, List.append_nil]
        · rw [if_neg hz, oneT, if_neg hz]
      · rw [if_neg hf, if_neg hf]
        exact Ev.congr (f := fun _ => some (([] : List S89), false)) (fun k => by dsimp only; rw [if_neg (by simp)]) (Ev.now _)
/-- The walk to the place. -/
theorem put_l0 (w : ByteArray) (x y : Int) {R : List S89 × Bool} (T1 T2 : List S89) (h1 : T1.length ≤ 1000000) (hb : ∀ t ∈ T1, befW t.f0 w = true) (hn : ∀ t ∈ T2.head?, befW t.f0 w = false)
    (h : Ev (fun k => spec_l01Put.j1 k (T1 ++ T2) w (T1.length : Int) x y) R) : ∀ e i, i + e = T1.length → Ev (fun k => spec_l01Put.l0 k (T1 ++ T2) w (i : Int) x y) R
  | 0, i, hi => by
    obtain rfl : i = T1.length := by omega
    refine Ev.step (fun k => ?_) h
    rw [spec_l01Put.l0]
    by_cases hl : T2.length = 0
    · rw [if_neg (by simp; omega)]
    · rw [if_pos (by simp; omega), if_pos (by omega), spec_before_f, Option.bind_some]
      obtain ⟨t, T3, rfl⟩ := List.exists_cons_of_ne_nil (List.length_pos_iff.1 (by omega : 0 < T2.length))
      have e : (rd_T89 (T1 ++ t :: T3) (T1.length : Int)).f0 = t.f0 := by simp [rd_T89]
      rw [e, if_neg (by rw [hn t rfl]; simp)]
  | e + 1, i, hi => by
    refine Ev.step (fun k => ?_) (put_l0 w x y T1 T2 h1 hb hn h e (i + 1) (by omega))
    have hlt : i < T1.length := by omega
    have e' : (rd_T89 (T1 ++ T2) (i : Int)).f0 = T1[i].f0 := by simp [rd_T89, List.getElem?_append, hlt]
    rw [spec_l01Put.l0, if_pos (by simp; omega), if_pos (by omega), spec_before_f, Option.bind_some, e', if_pos (hb _ (List.getElem_mem hlt)), wrap_nat _ (by omega)]
theorem put_new (T1 T2 : List S89) (w : ByteArray) (a : S27) (h1 : T1.length ≤ 1000000) (h2 : T2.length ≤ 1000000) (hb : ∀ t ∈ T1, befW t.f0 w = true) (hn : ∀ t ∈ T2, befW t.f0 w = false ∧ t.f0.toList ≠ w.toList) :
    Ev (fun k => spec_l01Put.f k (T1 ++ T2) w a.f0 a.f1) (T1 ++ oneT w a ++ T2, true) :=
  put_l0 w a.f0 a.f1 T1 T2 h1 hb (fun t ht => (hn t (List.mem_of_mem_head? ht)).1) (put_j1 T1 T2 w a h1 h2 (fun t ht => (hn t (List.mem_of_mem_head? ht)).2)) T1.length 0 (by omega)
theorem put_old (T1 T2 : List S89) (w : ByteArray) (a b : S27) (h1 : T1.length ≤ 1000000) (h2 : T2.length ≤ 1000000) (hb : ∀ t ∈ T1, befW t.f0 w = true) (hw : befW w w = false) (ha : okF2 a) (hb2 : okF2 b) :
    Ev (fun k => spec_l01Put.f k (T1 ++ ⟨w, b⟩ :: T2) w a.f0 a.f1) (if fitF (plusF b a).f0 (plusF b a).f1 = true then (T1 ++ oneT w (plusF b a) ++ T2, true) else ([], false)) :=
  put_l0 w a.f0 a.f1 T1 (⟨w, b⟩ :: T2) h1 hb (fun t ht => by simp at ht; rw [← ht]; exact hw) (put_j1_eq T1 T2 w a b h1 h2 ha hb2) T1.length 0 (by omega)
end Go.Proofs.Ytcklefgkbddlhaa.Pure
