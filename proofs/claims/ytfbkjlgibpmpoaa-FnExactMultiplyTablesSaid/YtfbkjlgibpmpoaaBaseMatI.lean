/- The product of two matrices of fractions, as the program reckons it. -/
import Derived.Test.YtfbkjlgibpmpoaaPx8
import Derived.Test.YtfbkjlgibpmpoaaBaseMatF
namespace Go.Proofs.Ytfbkjlgibpmpoaa.Pure
open Go.RowKit Go.Proofs.Ytfbkjlgibpmpoaa.P Go.Proofs.YtfbkjlgibpmpoaaW.PrintWords Go.Proofs.YtfbkjlgibpmpoaaW.PrintLast
set_option linter.unusedVariables false
set_option linter.unusedSimpArgs false

theorem rdFF_set (X : List (List S79)) (i : Nat) (r : List S79) (h : i < X.length) : rd_L4 (X.set i r) (i : Int) = r := by
  rw [rdFF_nat _ _ (by simpa using h)]
  simp
theorem rdF_set (X : List S79) (i : Nat) (r : S79) (h : i < X.length) : rd_T79 (X.set i r) (i : Int) = r := by
  rw [rdF_nat _ _ (by simpa using h)]
  simp
theorem set_back (X : List (List S79)) (i j : Nat) (s : S79) (hi : i < X.length) (hj : j < (rd_L4 X (i : Int)).length) (hs : rd_T79 (rd_L4 X (i : Int)) (j : Int) = s) : X.set i ((rd_L4 X (i : Int)).set j s) = X := by
  rw [← hs, rdF_nat _ _ hj, List.set_getElem_self, rdFF_nat _ _ hi, List.set_getElem_self]
theorem impl_cell (a b : List (List S79)) (n : Nat) (hn : n ≤ 6) (ha : Sq a n) (hb : Sq b n) (i j : Nat) (hi : i < n) (hj : j < n) (R : List (List S79) × Int) :
    ∀ e q (s : S79) (X : List (List S79)), q + e = n → okF2 s → X.length = n → (rd_L4 X (i : Int)).length = n → rd_T79 (rd_L4 X (i : Int)) (j : Int) = s → (match cellF a b i j e q s with | none => R = ([], 3) | some c => Ev (fun k => impl_MultiplyTables.l1 k a b (n : Int) (X.set i ((rd_L4 X (i : Int)).set j c)) (i : Int) (n : Int) (i : Int) (n : Int) ((j + 1 : Nat) : Int)) R) →
    Ev (fun k => impl_MultiplyTables.l2 k a b (n : Int) X (i : Int) (j : Int) (n : Int) (i : Int) (n : Int) (j : Int) (n : Int) (q : Int)) R
  | 0, q, s, X, hq, hs, hX, hXi, hXs, h => by
    simp only [cellF] at h
    rw [set_back X i j s (by omega) (by omega) hXs] at h
    refine Ev.step (fun k => ?_) h
    simp only [impl_MultiplyTables.l2]
    rw [if_neg (by omega), wrap_nat _ (by omega)]
  | e + 1, q, s, X, hq, hs, hX, hXi, hXs, h => by
    have hbl := hb.1
    have hal := ha.1
    have ra := ha.2 i hi
    have rb := hb.2 q (by omega)
    have oa := ra.2 q (by omega)
    have ob := rb.2 j hj
    have ht := impl_times_f _ _ oa ob
    unfold cellF at h
    refine Ev.step (f := fun k => (impl_Fraction_times.f k ((rd_T79 (rd_L4 a i) q).f0) ((rd_T79 (rd_L4 a i) q).f1) ((rd_T79 (rd_L4 b q) j).f0) ((rd_T79 (rd_L4 b q) j).f1)).bind fun bt238 => (if bt238.2.2 = true then ((impl_Fraction_plus.f k s.f0 s.f1 bt238.1 bt238.2.1).bind fun bt244 => (if bt244.2.2 = true then (impl_MultiplyTables.l2 k a b (n : Int) (X.set i ((rd_L4 X (i : Int)).set j (⟨bt244.1, bt244.2.1⟩ : S79))) (i : Int) (j : Int) (n : Int) (i : Int) (n : Int) (j : Int) (n : Int) ((q + 1 : Nat) : Int)) else (some (([] : List (List (S79))), 3)))) else (some (([] : List (List (S79))), 3)))) (fun k => ?_) ?_
    · simp only [impl_MultiplyTables.l2]
      rw [if_pos (by omega), if_pos (by omega), if_pos (by omega), if_pos (by omega), if_pos (by omega), if_pos (by omega), if_pos (by omega), if_pos (by omega), wrap_nat _ (by omega)]
      congr 1
      funext bt
      rw [if_pos (show (i : Int) < (X.length : Int) by omega), if_pos (show (j : Int) < ((rd_L4 X (i : Int)).length : Int) by omega), hXs, Int.toNat_natCast, Int.toNat_natCast]
    · refine Ev.bind (f := fun k bt238 => (if bt238.2.2 = true then ((impl_Fraction_plus.f k s.f0 s.f1 bt238.1 bt238.2.1).bind fun bt244 => (if bt244.2.2 = true then (impl_MultiplyTables.l2 k a b (n : Int) (X.set i ((rd_L4 X (i : Int)).set j (⟨bt244.1, bt244.2.1⟩ : S79))) (i : Int) (j : Int) (n : Int) (i : Int) (n : Int) (j : Int) (n : Int) ((q + 1 : Nat) : Int)) else (some (([] : List (List (S79))), 3)))) else (some (([] : List (List (S79))), 3)))) ht ?_
      generalize hT : timesF (rd_T79 (rd_L4 a (i : Int)) (q : Int)) (rd_T79 (rd_L4 b (q : Int)) (j : Int)) = T at h
      by_cases f1 : fitF T.f0 T.f1 = true
      · rw [if_pos f1] at h
        dsimp only
        refine Ev.congr (fun k => if_pos f1) ?_
        have hp := impl_plus_f s T hs f1
        refine Ev.bind (f := fun k bt244 => (if bt244.2.2 = true then (impl_MultiplyTables.l2 k a b (n : Int) (X.set i ((rd_L4 X (i : Int)).set j (⟨bt244.1, bt244.2.1⟩ : S79))) (i : Int) (j : Int) (n : Int) (i : Int) (n : Int) (j : Int) (n : Int) ((q + 1 : Nat) : Int)) else (some (([] : List (List (S79))), 3)))) hp ?_
        dsimp only
        by_cases f2 : fitF (plusF s T).f0 (plusF s T).f1 = true
        · rw [if_pos f2] at h
          refine Ev.congr (fun k => if_pos f2) ?_
          refine impl_cell a b n hn ha hb i j hi hj R e (q + 1) (plusF s T) (X.set i ((rd_L4 X (i : Int)).set j (plusF s T))) (by omega) f2 (by simpa using hX) ?_ ?_ ?_
          · rw [rdFF_set _ _ _ (by omega)]; simpa using hXi
          · rw [rdFF_set _ _ _ (by omega), rdF_set _ _ _ (by omega)]
          · rw [rdFF_set _ _ _ (by omega)]
            simp only [List.set_set]
            exact h
        · rw [if_neg f2] at h
          refine Ev.congr (fun k => if_neg f2) ?_
          subst h
          exact Ev.now _
      · rw [if_neg f1] at h
        dsimp only
        refine Ev.congr (fun k => if_neg f1) ?_
        subst h
        exact Ev.now _
theorem impl_row (a b : List (List S79)) (n : Nat) (hn : n ≤ 6) (ha : Sq a n) (hb : Sq b n) (i : Nat) (hi : i < n) (R : List (List S79) × Int) :
    ∀ e j (X : List (List S79)) (Q : List S79), j + e = n → Q.length = j → X.length = n → rd_L4 X (i : Int) = Q ++ List.replicate e ⟨0, 1⟩ → (match rowF a b n i e j with | none => R = ([], 3) | some cs => Ev (fun k => impl_MultiplyTables.l0 k a b (n : Int) (X.set i (Q ++ cs)) (n : Int) ((i + 1 : Nat) : Int)) R) →
    Ev (fun k => impl_MultiplyTables.l1 k a b (n : Int) X (i : Int) (n : Int) (i : Int) (n : Int) (j : Int)) R
  | 0, j, X, Q, hj, hQ, hX, hr, h => by
    simp only [rowF] at h
    have e1 : X.set i (Q ++ []) = X := by
      have : Q ++ [] = rd_L4 X (i : Int) := by rw [hr]; simp
      rw [this, rdFF_nat _ _ (by omega), List.set_getElem_self]
    rw [e1] at h
    refine Ev.step (fun k => ?_) h
    simp only [impl_MultiplyTables.l1]
    rw [if_neg (by omega), wrap_nat _ (by omega)]
  | e + 1, j, X, Q, hj, hQ, hX, hr, h => by
    have hlen : (rd_L4 X (i : Int)).length = n := by rw [hr]; simp; omega
    refine Ev.step (f := fun k => impl_MultiplyTables.l2 k a b (n : Int) X (i : Int) (j : Int) (n : Int) (i : Int) (n : Int) (j : Int) (n : Int) ((0 : Nat) : Int)) (fun k => ?_) ?_
    · simp only [impl_MultiplyTables.l1]
      rw [if_pos (by omega)]
      rfl
    · refine impl_cell a b n hn ha hb i j hi (by omega) R n 0 ⟨0, 1⟩ X (by omega) ok01 hX hlen ?_ ?_
      · rw [rdF_nat _ _ (by omega)]
        simp only [hr]
        rw [List.getElem_append_right (by omega)]
        simp
      · unfold rowF at h
        cases hc : cellF a b i j n 0 ⟨0, 1⟩ with
        | none => rw [hc] at h; exact h
        | some c =>
          rw [hc] at h
          have e2 : (rd_L4 X (i : Int)).set j c = (Q ++ [c]) ++ List.replicate e ⟨0, 1⟩ := by
            rw [hr, List.set_append_right _ _ (by omega), show j - Q.length = 0 by omega, List.replicate_succ, List.set_cons_zero, List.append_assoc]
            rfl
          refine impl_row a b n hn ha hb i hi R e (j + 1) _ (Q ++ [c]) (by omega) (by simp [hQ]) (by simpa using hX) (by rw [rdFF_set _ _ _ (by omega), e2]) ?_
          cases hr2 : rowF a b n i e (j + 1) with
          | none => simp only [hr2] at h; exact h
          | some cs => simp only [hr2] at h; dsimp only; rw [List.set_set, List.append_assoc Q [c] cs]; exact h
theorem impl_mat (a b : List (List S79)) (n : Nat) (hn : n ≤ 6) (ha : Sq a n) (hb : Sq b n) (R : List (List S79) × Int) :
    ∀ e i (D : List (List S79)), i + e = n → D.length = i → (match matF a b n e i with | none => R = ([], 3) | some rs => R = (D ++ rs, 0)) →
    Ev (fun k => impl_MultiplyTables.l0 k a b (n : Int) (D ++ List.replicate e (List.replicate n ⟨0, 1⟩)) (n : Int) (i : Int)) R
  | 0, i, D, hi, hD, h => by
    simp only [matF, List.append_nil] at h
    subst h
    refine Ev.step (f := fun _ => some (D, 0)) (fun k => ?_) (Ev.now _)
    simp only [impl_MultiplyTables.l0]
    rw [if_neg (by omega)]
    simp
  | e + 1, i, D, hi, hD, h => by
    have hl : (D ++ List.replicate (e + 1) (List.replicate n (⟨0, 1⟩ : S79))).length = n := by simp; omega
    refine Ev.step (f := fun k => impl_MultiplyTables.l1 k a b (n : Int) (D ++ List.replicate (e + 1) (List.replicate n ⟨0, 1⟩)) (i : Int) (n : Int) (i : Int) (n : Int) ((0 : Nat) : Int)) (fun k => ?_) ?_
    · simp only [impl_MultiplyTables.l0]
      rw [if_pos (by omega)]
      rfl
    · refine impl_row a b n hn ha hb i (by omega) R n 0 _ [] (by omega) rfl hl ?_ ?_
      · rw [rdFF_nat _ _ (by omega), List.getElem_append_right (by omega)]
        simp
      · unfold matF at h
        cases hc : rowF a b n i n 0 with
        | none => rw [hc] at h; exact h
        | some r =>
          rw [hc] at h
          dsimp only
          have e2 : (D ++ List.replicate (e + 1) (List.replicate n (⟨0, 1⟩ : S79))).set i ([] ++ r) = (D ++ [r]) ++ List.replicate e (List.replicate n ⟨0, 1⟩) := by
            rw [List.set_append_right _ _ (by omega), show i - D.length = 0 by omega, List.replicate_succ, List.set_cons_zero, List.append_assoc]
            rfl
          rw [e2]
          refine impl_mat a b n hn ha hb R e (i + 1) (D ++ [r]) (by omega) (by simp [hD]) ?_
          cases hr : matF a b n e (i + 1) with
          | none => simp only [hr] at h; exact h
          | some rs => simp only [hr] at h; dsimp only; rw [List.append_assoc D [r] rs]; exact h
end Go.Proofs.Ytfbkjlgibpmpoaa.Pure
