/- The product of two matrices of fractions: both programs come to the same. -/
import Derived.Test.YtfbkjlgibpmpoaaPx5
import Derived.Test.YtfbkjlgibpmpoaaPx2
import Derived.Test.YtfbkjlgibpmpoaaBaseMatI
namespace Go.Proofs.Ytfbkjlgibpmpoaa.Pure
open Go.RowKit Go.Proofs.Ytfbkjlgibpmpoaa.P Go.Proofs.YtfbkjlgibpmpoaaW.PrintWords Go.Proofs.YtfbkjlgibpmpoaaW.PrintLast
set_option linter.unusedVariables false
set_option linter.unusedSimpArgs false

theorem fractions_l0 (n : Nat) (h1 : 1 ≤ n) (hn : n ≤ 6) : ∀ e i (D : List (List S79)), i + e = n → D.length = i →
    Ev (fun k => impl_fractions.l0 k (n : Int) (D ++ List.replicate e []) (n : Int) (i : Int)) (D ++ List.replicate e (List.replicate n ⟨0, 1⟩))
  | 0, i, D, hi, hD => by
    refine Ev.step (f := fun _ => some D) (fun k => ?_) (by simpa using Ev.now D)
    simp only [impl_fractions.l0]
    rw [if_neg (by omega)]
    simp
  | e + 1, i, D, hi, hD => by
    have ih := fractions_l0 n h1 hn e (i + 1) (D ++ [List.replicate n ⟨0, 1⟩]) (by omega) (by simp [hD])
    have e0 : (D ++ [List.replicate n (⟨0, 1⟩ : S79)]) ++ List.replicate e (List.replicate n ⟨0, 1⟩) = D ++ List.replicate (e + 1) (List.replicate n ⟨0, 1⟩) := by
      rw [List.append_assoc, List.replicate_succ]; rfl
    rw [e0] at ih
    refine Ev.step (fun k => ?_) ih
    simp only [impl_fractions.l0]
    have e1 : impl_Fraction_112.f ([(⟨0, 1⟩ : S79)]) (n : Int) = some (List.replicate n ⟨0, 1⟩) := by
      unfold impl_Fraction_112.f
      rw [if_pos ⟨rfl, by omega, by omega⟩, Int.toNat_natCast]
      rfl
    have e2 : (D ++ List.replicate (e + 1) ([] : List S79)).set i (List.replicate n ⟨0, 1⟩) = (D ++ [List.replicate n ⟨0, 1⟩]) ++ List.replicate e [] := by
      rw [List.set_append_right _ _ (by omega), show i - D.length = 0 by omega, List.replicate_succ, List.set_cons_zero, List.append_assoc]
      rfl
    rw [if_pos (by omega)]
    unfold impl_zero.f
    rw [Option.bind_some]
    dsimp only
    rw [e1, Option.bind_some, if_pos (by omega), if_pos (by simp; omega), Int.toNat_natCast, wrap_nat _ (by omega), e2]
theorem fractions_f (n : Nat) (h1 : 1 ≤ n) (hn : n ≤ 6) : Ev (fun k => impl_fractions.f k (n : Int)) (List.replicate n (List.replicate n ⟨0, 1⟩)) := by
  have h := fractions_l0 n h1 hn n 0 [] (by omega) rfl
  simp only [List.nil_append] at h
  refine Ev.congr (fun k => ?_) h
  unfold impl_fractions.f
  rw [if_pos (by omega), if_pos (by omega), Option.bind_some, List.length_replicate, Int.toNat_natCast]
  rfl
/-- Are these fractions? -/
def okL (l : List S79) : Bool := l.all fun x => fitF x.f0 x.f1
theorem spec_sq_l1 (a : List (List S79)) (hn : a.length ≤ 6) (i : Nat) (hi : i < a.length) (hr : (rd_L4 a (i : Int)).length = a.length) (R : Bool) : ∀ e j, j + e = a.length → (if okL ((rd_L4 a (i : Int)).drop j) = true then Ev (fun k => spec_l08Square.l0 k a ((i + 1 : Nat) : Int)) R else R = false) →
    Ev (fun k => spec_l08Square.l1 k a (i : Int) (j : Int)) R
  | 0, j, hj, h => by
    rw [List.drop_of_length_le (by omega), if_pos (show okL [] = true from rfl)] at h
    refine Ev.step (fun k => ?_) h
    simp only [spec_l08Square.l1]
    rw [if_neg (by omega), wrap_nat _ (by omega)]
  | e + 1, j, hj, h => by
    have hjl : j < (rd_L4 a (i : Int)).length := by omega
    rw [List.drop_eq_getElem_cons hjl] at h
    have e1 : okL ((rd_L4 a (i : Int))[j] :: (rd_L4 a (i : Int)).drop (j + 1)) = (fitF (rd_L4 a (i : Int))[j].f0 (rd_L4 a (i : Int))[j].f1 && okL ((rd_L4 a (i : Int)).drop (j + 1))) := by unfold okL; rw [List.all_cons]
    rw [e1] at h
    refine Ev.step (f := fun k => (spec_l01IsFrac.f k (rd_L4 a (i : Int))[j].f0 (rd_L4 a (i : Int))[j].f1).bind fun t110 => (if t110 = true then (spec_l08Square.l1 k a (i : Int) ((j + 1 : Nat) : Int)) else (some false))) (fun k => ?_) ?_
    · simp only [spec_l08Square.l1]
      rw [if_pos (by omega), if_pos (by omega), if_pos (by omega), if_pos (by omega), if_pos (by omega), wrap_nat _ (by omega), rdF_nat _ _ hjl]
    · refine Ev.bind (f := fun k t110 => (if t110 = true then (spec_l08Square.l1 k a (i : Int) ((j + 1 : Nat) : Int)) else (some false))) (spec_isFrac_f _ _) ?_
      by_cases hf : fitF (rd_L4 a (i : Int))[j].f0 (rd_L4 a (i : Int))[j].f1 = true
      · rw [hf, Bool.true_and] at h
        refine Ev.congr (fun k => if_pos hf) ?_
        exact spec_sq_l1 a hn i hi hr R e (j + 1) (by omega) h
      · refine Ev.congr (fun k => if_neg hf) ?_
        rw [Bool.not_eq_true] at hf
        rw [hf, Bool.false_and, if_neg (by decide)] at h
        subst h
        exact Ev.now _
/-- A row of so many fractions. -/
def okRowF (n : Nat) (l : List S79) : Bool := decide (l.length = n) && okL l
theorem spec_sq_l0 (a : List (List S79)) (hn : a.length ≤ 6) : ∀ e i, i + e = a.length → Ev (fun k => spec_l08Square.l0 k a (i : Int)) ((a.drop i).all (okRowF a.length))
  | 0, i, hi => by
    rw [List.drop_of_length_le (by omega)]
    refine Ev.step (f := fun _ => some true) (fun k => ?_) (Ev.now _)
    simp only [spec_l08Square.l0]
    rw [if_neg (by omega)]
  | e + 1, i, hi => by
    have hil : i < a.length := by omega
    have hrd : rd_L4 a (i : Int) = a[i] := rdFF_nat a i hil
    rw [List.drop_eq_getElem_cons hil, List.all_cons]
    have ih := spec_sq_l0 a hn e (i + 1) (by omega)
    by_cases hl : a[i].length = a.length
    · refine Ev.step (f := fun k => spec_l08Square.l1 k a (i : Int) ((0 : Nat) : Int)) (fun k => ?_) ?_
      · simp only [spec_l08Square.l0]
        rw [if_pos (by omega), if_pos (by omega), if_pos (by rw [hrd]; omega)]
        rfl
      · refine spec_sq_l1 a hn i hil (by rw [hrd]; exact hl) _ a.length 0 (by omega) ?_
        rw [List.drop_zero, hrd]
        unfold okRowF
        by_cases ho : okL a[i] = true
        · rw [if_pos ho, ho]
          simp only [hl, decide_true, Bool.true_and]
          exact ih
        · rw [if_neg ho]
          rw [Bool.not_eq_true] at ho
          rw [ho]
          simp
    · refine Ev.step (f := fun _ => some false) (fun k => ?_) ?_
      · simp only [spec_l08Square.l0]
        rw [if_pos (by omega), if_pos (by omega), if_neg (by rw [hrd]; omega)]
      · unfold okRowF
        simp only [hl, decide_false, Bool.false_and]
        exact Ev.now _
/-- A square matrix of 1 to 6 rows of fractions. -/
def sqB (a : List (List S79)) : Bool := (decide (1 ≤ a.length) && decide (a.length ≤ 6)) && a.all (okRowF a.length)
theorem spec_sq_f (a : List (List S79)) : Ev (fun k => spec_l08Square.f k a) (sqB a) := by
  unfold sqB
  by_cases h1 : 1 ≤ a.length
  · by_cases h2 : a.length ≤ 6
    · have h := spec_sq_l0 a h2 a.length 0 (by omega)
      rw [List.drop_zero] at h
      simp only [h1, h2, decide_true, Bool.true_and]
      have hs : Ev (fun k => spec_l08Square.j0 k a (decide ((a.length : Int) > 6))) (a.all (okRowF a.length)) := by
        refine Ev.step (fun k => ?_) h
        simp only [spec_l08Square.j0]
        rw [if_neg (by simp; omega)]
        rfl
      refine Ev.congr (fun k => ?_) hs
      unfold spec_l08Square.f
      rw [if_neg (by omega)]
    · simp only [h2, decide_false, Bool.and_false, Bool.false_and]
      have hs : Ev (fun k => spec_l08Square.j0 k a (decide ((a.length : Int) > 6))) false := by
        refine Ev.step (f := fun _ => some false) (fun k => ?_) (Ev.now _)
        simp only [spec_l08Square.j0]
        rw [if_pos (by simp; omega)]
      refine Ev.congr (fun k => ?_) hs
      unfold spec_l08Square.f
      rw [if_neg (by omega)]
  · simp only [h1, decide_false, Bool.false_and]
    have hs : Ev (fun k => spec_l08Square.j0 k a true) false := by
      refine Ev.step (f := fun _ => some false) (fun k => ?_) (Ev.now _)
      simp only [spec_l08Square.j0]
      rw [if_pos trivial]
    refine Ev.congr (fun k => ?_) hs
    unfold spec_l08Square.f
    rw [if_pos (by omega)]
end Go.Proofs.Ytfbkjlgibpmpoaa.Pure
