/- MultiplyTables: the reference and the program come to the same. -/
import Derived.Test.YtfbkjlgibpmpoaaBaseMatT
namespace Go.Proofs.Ytfbkjlgibpmpoaa.Pure
open Go.RowKit Go.Proofs.Ytfbkjlgibpmpoaa.P Go.Proofs.YtfbkjlgibpmpoaaW.PrintWords Go.Proofs.YtfbkjlgibpmpoaaW.PrintLast
set_option linter.unusedVariables false
set_option linter.unusedSimpArgs false

theorem allOk_okL (x : List S79) : FrP.allOk x = okL x := by
  unfold FrP.allOk okL
  induction x with
  | nil => rfl
  | cons y x ih =>
    rw [List.any_cons, List.all_cons, ← ih, Bool.not_or, Bool.not_not]
    rfl
theorem badRow_ok (n : Nat) (x : List S79) : FrP.badRow (n : Int) x = !(okRowF n x) := by
  unfold FrP.badRow okRowF
  rw [allOk_okL]
  by_cases h : x.length = n
  · simp [h]
  · have h' : ¬ ((x.length : Int) = (n : Int)) := by omega
    simp [h, h']
theorem any_bad (n : Nat) (l : List (List S79)) : (!(l.any (FrP.badRow (n : Int)))) = l.all (okRowF n) := by
  induction l with
  | nil => rfl
  | cons x l ih => rw [List.any_cons, List.all_cons, ← ih, badRow_ok, Bool.not_or, Bool.not_not]
theorem isMat_f (l : List (List S79)) (n : Nat) : FrP.isMat l (n : Int) = ((decide (1 ≤ n) && decide (n ≤ 6)) && (decide (l.length = n) && l.all (okRowF n))) := by
  unfold FrP.isMat
  rw [any_bad]
  have e1 : decide (1 ≤ (n : Int)) = decide (1 ≤ n) := by apply decide_eq_decide.2; omega
  have e2 : decide ((n : Int) ≤ 6) = decide (n ≤ 6) := by apply decide_eq_decide.2; omega
  have e3 : decide ((l.length : Int) = (n : Int)) = decide (l.length = n) := by apply decide_eq_decide.2; omega
  rw [e1, e2, e3]
theorem rowF_len (a b : List (List S79)) (n i : Nat) : ∀ e j cs, rowF a b n i e j = some cs → cs.length = e
  | 0, j, cs, h => by simp only [rowF, Option.some.injEq] at h; subst h; rfl
  | e + 1, j, cs, h => by
    unfold rowF at h
    cases hc : cellF a b i j n 0 ⟨0, 1⟩ with
    | none => simp [hc] at h
    | some c =>
      cases hr : rowF a b n i e (j + 1) with
      | none => simp [hc, hr] at h
      | some ds =>
        simp only [hc, hr, Option.some.injEq] at h
        subst h
        simp [rowF_len a b n i e (j + 1) ds hr]
theorem matF_len (a b : List (List S79)) (n : Nat) : ∀ e i rs, matF a b n e i = some rs → rs.length = e ∧ totF rs = e * n
  | 0, i, rs, h => by simp only [matF, Option.some.injEq] at h; subst h; simp [totF]
  | e + 1, i, rs, h => by
    unfold matF at h
    cases hc : rowF a b n i n 0 with
    | none => simp [hc] at h
    | some r =>
      cases hr : matF a b n e (i + 1) with
      | none => simp [hc, hr] at h
      | some ds =>
        simp only [hc, hr, Option.some.injEq] at h
        subst h
        have h1 := rowF_len a b n i n 0 r hc
        have h2 := matF_len a b n e (i + 1) ds hr
        refine ⟨by simp [h2.1], ?_⟩
        simp only [totF, h1, h2.2, Nat.succ_mul]
        omega
theorem sq_of (a : List (List S79)) (n : Nat) (hl : a.length = n) (h : a.all (okRowF n) = true) : Sq a n := by
  refine ⟨hl, fun i hi => ?_⟩
  rw [List.all_eq_true] at h
  have hi2 : i < a.length := by omega
  have h1 := h a[i] (List.getElem_mem hi2)
  unfold okRowF at h1
  simp only [Bool.and_eq_true, decide_eq_true_eq] at h1
  rw [rdFF_nat a i hi2]
  refine ⟨h1.1, fun j hj => ?_⟩
  have h2 := h1.2
  unfold okL at h2
  rw [List.all_eq_true] at h2
  rw [rdF_nat _ _ (by omega)]
  exact h2 _ (List.getElem_mem (by omega))
theorem mat_both (a b : List (List S79)) : ∃ r c, Ev (fun k => spec_MultiplyTables.f k a b) (r, c) ∧ Ev (fun k => impl_MultiplyTables.f k a b) (r, c) ∧ r.length ≤ 1000 ∧ totF r ≤ 10000 := by
  have hsa := spec_sq_f a
  have hsb := spec_sq_f b
  have sj : ∀ X : Bool, X = true → Ev (fun k => spec_MultiplyTables.j0 k a b X) (([] : List (List S79)), (1 : Int)) := fun X hX => by
    subst hX
    refine Ev.step (f := fun _ => some ([], 1)) (fun k => ?_) (Ev.now _)
    simp only [spec_MultiplyTables.j0]
    rw [if_pos trivial]
  have ij : ∀ X : Bool, X = true → Ev (fun k => impl_MultiplyTables.j0 k a b (a.length : Int) X) (([] : List (List S79)), (1 : Int)) := fun X hX => by
    subst hX
    refine Ev.step (f := fun _ => some ([], 1)) (fun k => ?_) (Ev.now _)
    simp only [impl_MultiplyTables.j0]
    rw [if_pos trivial]
  have iA : FrP.isMat a (a.length : Int) = sqB a := by
    rw [isMat_f]
    unfold sqB
    simp
  by_cases h1 : sqB a = true
  · by_cases h2 : sqB b = true ∧ a.length = b.length
    · obtain ⟨h2, hlen⟩ := h2
      have u1 := h1
      have u2 := h2
      unfold sqB at u1 u2
      simp only [Bool.and_eq_true, decide_eq_true_eq] at u1 u2
      have qa := sq_of a a.length rfl u1.2
      have qb := sq_of b a.length hlen.symm (by rw [hlen]; exact u2.2)
      have iB : FrP.isMat b (a.length : Int) = true := by
        rw [isMat_f]
        simp only [Bool.and_eq_true, decide_eq_true_eq]
        refine ⟨u1.1, hlen.symm, ?_⟩
        rw [hlen]
        exact u2.2
      have key : ∀ R : List (List S79) × Int, (match matF a b a.length a.length 0 with | none => R = ([], 3) | some rs => R = ([] ++ rs, 0)) → Ev (fun k => spec_MultiplyTables.f k a b) R ∧ Ev (fun k => impl_MultiplyTables.f k a b) R := fun R hR => by
        have s0 := spec_mat a b a.length u1.1.2 qa qb R a.length 0 [] (by omega) rfl hR
        have i0 := impl_mat a b a.length u1.1.2 qa qb R a.length 0 [] (by omega) rfl hR
        rw [List.nil_append] at i0
        constructor
        · unfold spec_MultiplyTables.f
          rw [h1] at hsa
          rw [h2] at hsb
          refine Ev.bind (f := fun k t132 => if t132 = true then ((spec_l08Square.f k b).bind fun t133 => (if t133 = true then (spec_MultiplyTables.j0 k a b ((a.length : Int) != (b.length : Int))) else (spec_MultiplyTables.j0 k a b true))) else (spec_MultiplyTables.j0 k a b true)) hsa ?_
          refine Ev.congr (fun k => if_pos rfl) ?_
          refine Ev.bind (f := fun k t133 => (if t133 = true then (spec_MultiplyTables.j0 k a b ((a.length : Int) != (b.length : Int))) else (spec_MultiplyTables.j0 k a b true))) hsb ?_
          refine Ev.congr (fun k => if_pos rfl) ?_
          refine Ev.step (fun k => ?_) s0
          simp only [spec_MultiplyTables.j0]
          rw [if_neg (by simp [hlen])]
          rfl
        · unfold impl_MultiplyTables.f impl_isFractionMatrix.f
          simp only [Option.bind_some, iA, h1, iB, if_true]
          refine Ev.step (f := fun k => (impl_fractions.f k (a.length : Int)).bind fun t231 => (impl_MultiplyTables.l0 k a b (a.length : Int) t231 (a.length : Int) 0)) (fun k => ?_) ?_
          · simp only [impl_MultiplyTables.j0]
            rw [if_neg (by decide)]
          · refine Ev.bind (f := fun k t231 => (impl_MultiplyTables.l0 k a b (a.length : Int) t231 (a.length : Int) 0)) (fractions_f a.length u1.1.1 u1.1.2) ?_
            exact i0
      cases hm : matF a b a.length a.length 0 with
      | none =>
        obtain ⟨k1, k2⟩ := key ([], 3) (by rw [hm])
        exact ⟨[], 3, k1, k2, by simp, by simp [totF]⟩
      | some rs =>
        obtain ⟨k1, k2⟩ := key ([] ++ rs, 0) (by rw [hm])
        have hl := matF_len a b a.length a.length 0 rs hm
        have hq : a.length * a.length ≤ 6 * 6 := Nat.mul_le_mul u1.1.2 u1.1.2
        exact ⟨rs, 0, k1, k2, by omega, by omega⟩
    · refine ⟨[], 1, ?_, ?_, by simp, by simp [totF]⟩
      · unfold spec_MultiplyTables.f
        rw [h1] at hsa
        refine Ev.bind (f := fun k t132 => if t132 = true then ((spec_l08Square.f k b).bind fun t133 => (if t133 = true then (spec_MultiplyTables.j0 k a b ((a.length : Int) != (b.length : Int))) else (spec_MultiplyTables.j0 k a b true))) else (spec_MultiplyTables.j0 k a b true)) hsa ?_
        refine Ev.congr (fun k => if_pos rfl) ?_
        refine Ev.bind (f := fun k t133 => (if t133 = true then (spec_MultiplyTables.j0 k a b ((a.length : Int) != (b.length : Int))) else (spec_MultiplyTables.j0 k a b true))) hsb ?_
        by_cases h3 : sqB b = true
        · refine Ev.congr (fun k => if_pos h3) ?_
          refine sj _ ?_
          rw [bne_iff_ne]
          intro e
          exact h2 ⟨h3, by omega⟩
        · refine Ev.congr (fun k => if_neg h3) ?_
          exact sj _ rfl
      · unfold impl_MultiplyTables.f impl_isFractionMatrix.f
        simp only [Option.bind_some, iA, h1, if_true]
        refine ij _ ?_
        rw [isMat_f]
        have u1 := h1
        unfold sqB at u1
        simp only [Bool.and_eq_true, decide_eq_true_eq] at u1
        rw [Bool.not_eq_true', Bool.eq_false_iff]
        intro hh
        simp only [Bool.and_eq_true, decide_eq_true_eq] at hh
        refine h2 ⟨?_, hh.2.1.symm⟩
        unfold sqB
        rw [hh.2.1]
        simp only [Bool.and_eq_true, decide_eq_true_eq]
        exact ⟨hh.1, hh.2.2⟩
  · refine ⟨[], 1, ?_, ?_, by simp, by simp [totF]⟩
    · unfold spec_MultiplyTables.f
      refine Ev.bind (f := fun k t132 => if t132 = true then ((spec_l08Square.f k b).bind fun t133 => (if t133 = true then (spec_MultiplyTables.j0 k a b ((a.length : Int) != (b.length : Int))) else (spec_MultiplyTables.j0 k a b true))) else (spec_MultiplyTables.j0 k a b true)) hsa ?_
      refine Ev.congr (fun k => if_neg h1) ?_
      exact sj _ rfl
    · unfold impl_MultiplyTables.f impl_isFractionMatrix.f
      rw [Bool.not_eq_true] at h1
      simp only [Option.bind_some, iA, h1, Bool.false_eq_true, if_false]
      exact ij _ rfl
end Go.Proofs.Ytfbkjlgibpmpoaa.Pure
