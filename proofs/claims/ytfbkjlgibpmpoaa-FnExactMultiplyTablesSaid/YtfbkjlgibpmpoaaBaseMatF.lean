/- The product of two matrices of fractions, as the reference reckons it. -/
import Derived.Test.YtfbkjlgibpmpoaaPx4
import Derived.Test.YtfbkjlgibpmpoaaBaseRed
import Derived.Test.YtfbkjlgibpmpoaaBaseFrM
namespace Go.Proofs.Ytfbkjlgibpmpoaa.Pure
open Go.RowKit Go.Proofs.Ytfbkjlgibpmpoaa.P Go.Proofs.YtfbkjlgibpmpoaaW.PrintWords Go.Proofs.YtfbkjlgibpmpoaaW.PrintLast
set_option linter.unusedVariables false
set_option linter.unusedSimpArgs false

def okF2 (x : S79) : Prop := fitF x.f0 x.f1 = true
def timesF (x y : S79) : S79 := ⟨(redF (x.f0 * y.f0) (x.f1 * y.f1)).1, (redF (x.f0 * y.f0) (x.f1 * y.f1)).2⟩
def plusF (x y : S79) : S79 := ⟨(redF (x.f0 * y.f1 + y.f0 * x.f1) (x.f1 * y.f1)).1, (redF (x.f0 * y.f1 + y.f0 * x.f1) (x.f1 * y.f1)).2⟩
theorem mul_b {a b : Int} (h1 : -1000000000 ≤ a) (h2 : a ≤ 1000000000) (h3 : -1000000000 ≤ b) (h4 : b ≤ 1000000000) : (a * b).natAbs ≤ 1000000000000000000 := by
  rw [Int.natAbs_mul]
  exact Nat.le_trans (Nat.mul_le_mul (show a.natAbs ≤ 1000000000 by omega) (show b.natAbs ≤ 1000000000 by omega)) (by decide)
theorem num_t (x y : S79) (hx : okF2 x) (hy : okF2 y) : (x.f0 * y.f0).natAbs ≤ 1000000000000000000 ∧ 1 ≤ x.f1 * y.f1 ∧ (x.f1 * y.f1).natAbs ≤ 1000000000000000000 ∧ (x.f0 * y.f1).natAbs ≤ 1000000000000000000 ∧ (y.f0 * x.f1).natAbs ≤ 1000000000000000000 := by
  have h1 := fitF_bounds hx
  have h2 := fitF_bounds hy
  refine ⟨mul_b (by omega) (by omega) (by omega) (by omega), ?_, mul_b (by omega) (by omega) (by omega) (by omega), mul_b (by omega) (by omega) (by omega) (by omega), mul_b (by omega) (by omega) (by omega) (by omega)⟩
  have := Int.mul_le_mul h1.1 h2.1 (by omega) (by omega)
  omega
theorem spec_times_f (x y : S79) (hx : okF2 x) (hy : okF2 y) : Ev (fun k => spec_l01TimesFrac.f k x.f0 x.f1 y.f0 y.f1) (if fitF (timesF x y).f0 (timesF x y).f1 = true then ((timesF x y).f0, (timesF x y).f1, true) else (0, 0, false)) := by
  obtain ⟨h1, h2, h3, _, _⟩ := num_t x y hx hy
  unfold spec_l01TimesFrac.f
  rw [wrap_of _ (by omega) (by omega), wrap_of _ (by omega) (by omega)]
  refine Ev.bind (f := fun _ bt => some (bt.1, bt.2.1, bt.2.2)) (spec_frac_f (x.f0 * y.f0) (x.f1 * y.f1) (by omega) h2 (by omega)) ?_
  exact Ev.now _
theorem impl_times_f (x y : S79) (hx : okF2 x) (hy : okF2 y) : Ev (fun k => impl_Fraction_times.f k x.f0 x.f1 y.f0 y.f1) ((timesF x y).f0, (timesF x y).f1, fitF (timesF x y).f0 (timesF x y).f1) := by
  obtain ⟨h1, h2, h3, _, _⟩ := num_t x y hx hy
  unfold impl_Fraction_times.f
  rw [wrap_of _ (by omega) (by omega), wrap_of _ (by omega) (by omega)]
  refine Ev.bind (f := fun _ bt => some (bt.1, bt.2.1, bt.2.2)) (impl_red_f (x.f0 * y.f0) (x.f1 * y.f1) (by omega) h2 (by omega)) ?_
  exact Ev.now _
theorem spec_plus_f (x y : S79) (hx : okF2 x) (hy : okF2 y) : Ev (fun k => spec_l01Plus.f k x.f0 x.f1 y.f0 y.f1) (if fitF (plusF x y).f0 (plusF x y).f1 = true then ((plusF x y).f0, (plusF x y).f1, true) else (0, 0, false)) := by
  obtain ⟨_, h2, h3, h4, h5⟩ := num_t x y hx hy
  unfold spec_l01Plus.f
  rw [wrap_of (x.f0 * y.f1) (by omega) (by omega), wrap_of (y.f0 * x.f1) (by omega) (by omega), wrap_of (x.f0 * y.f1 + y.f0 * x.f1) (by omega) (by omega), wrap_of (x.f1 * y.f1) (by omega) (by omega)]
  refine Ev.bind (f := fun _ bt => some (bt.1, bt.2.1, bt.2.2)) (spec_frac_f (x.f0 * y.f1 + y.f0 * x.f1) (x.f1 * y.f1) (by omega) h2 (by omega)) ?_
  exact Ev.now _
theorem impl_plus_f (x y : S79) (hx : okF2 x) (hy : okF2 y) : Ev (fun k => impl_Fraction_plus.f k x.f0 x.f1 y.f0 y.f1) ((plusF x y).f0, (plusF x y).f1, fitF (plusF x y).f0 (plusF x y).f1) := by
  obtain ⟨_, h2, h3, h4, h5⟩ := num_t x y hx hy
  unfold impl_Fraction_plus.f
  rw [wrap_of (x.f0 * y.f1) (by omega) (by omega), wrap_of (y.f0 * x.f1) (by omega) (by omega), wrap_of (x.f0 * y.f1 + y.f0 * x.f1) (by omega) (by omega), wrap_of (x.f1 * y.f1) (by omega) (by omega)]
  refine Ev.bind (f := fun _ bt => some (bt.1, bt.2.1, bt.2.2)) (impl_red_f (x.f0 * y.f1 + y.f0 * x.f1) (x.f1 * y.f1) (by omega) h2 (by omega)) ?_
  exact Ev.now _
theorem spec_plus_0 (a b : Int) : Ev (fun k => spec_l01Plus.f k a b 0 0) (0, 0, false) := by
  unfold spec_l01Plus.f
  rw [Int.mul_zero b, wrap_of 0 (by omega) (by omega)]
  have h : Ev (fun k => spec_l01Frac.f k (wrap64 (wrap64 (a * 0) + wrap64 (0 * b))) 0) ((0 : Int), (0 : Int), false) := by
    exact ⟨0, fun k _ => by dsimp only; unfold spec_l01Frac.f; exact if_pos rfl⟩
  refine Ev.bind (f := fun _ bt => some (bt.1, bt.2.1, bt.2.2)) h ?_
  exact Ev.now _
/-- One cell from what there is. -/
def cellF (a b : List (List S79)) (i j : Nat) : Nat → Nat → S79 → Option S79
  | 0, _, s => some s
  | e + 1, q, s => if fitF (timesF (rd_T79 (rd_L4 a i) q) (rd_T79 (rd_L4 b q) j)).f0 (timesF (rd_T79 (rd_L4 a i) q) (rd_T79 (rd_L4 b q) j)).f1 = true then
      (if fitF (plusF s (timesF (rd_T79 (rd_L4 a i) q) (rd_T79 (rd_L4 b q) j))).f0 (plusF s (timesF (rd_T79 (rd_L4 a i) q) (rd_T79 (rd_L4 b q) j))).f1 = true then cellF a b i j e (q + 1) (plusF s (timesF (rd_T79 (rd_L4 a i) q) (rd_T79 (rd_L4 b q) j))) else none) else none
/-- A square matrix of fractions. -/
def Sq (a : List (List S79)) (n : Nat) : Prop := a.length = n ∧ ∀ i, i < n → (rd_L4 a (i : Int)).length = n ∧ ∀ j, j < n → okF2 (rd_T79 (rd_L4 a (i : Int)) (j : Int))
theorem spec_cell (a b : List (List S79)) (n : Nat) (hn : n ≤ 6) (ha : Sq a n) (hb : Sq b n) (x6 : List (List S79)) (x8 : List S79) (h8 : x8.length ≤ 6) (i j : Nat) (hi : i < n) (hj : j < n) (R : List (List S79) × Int) :
    ∀ e q (s : S79), q + e = n → okF2 s → (match cellF a b i j e q s with | none => R = ([], 3) | some c => Ev (fun k => spec_MultiplyTables.l1 k a b x6 (i : Int) (x8 ++ [c]) ((j + 1 : Nat) : Int)) R) →
    Ev (fun k => spec_MultiplyTables.l2 k a b x6 (i : Int) x8 (j : Int) (q : Int) s.f0 s.f1) R
  | 0, q, s, hq, hs, h => by
    have hbl := hb.1
    refine Ev.step (fun k => ?_) h
    simp only [spec_MultiplyTables.l2]
    rw [if_neg (by omega), if_pos (by omega), wrap_nat _ (by omega)]
  | e + 1, q, s, hq, hs, h => by
    have hbl := hb.1
    have hal := ha.1
    have ra := ha.2 i hi
    have rb := hb.2 q (by omega)
    have oa := ra.2 q (by omega)
    have ob := rb.2 j hj
    have ht := spec_times_f _ _ oa ob
    unfold cellF at h
    refine Ev.step (f := fun k => (spec_l01TimesFrac.f k ((rd_T79 (rd_L4 a i) q).f0) ((rd_T79 (rd_L4 a i) q).f1) ((rd_T79 (rd_L4 b q) j).f0) ((rd_T79 (rd_L4 b q) j).f1)).bind fun bt153 => ((spec_l01Plus.f k s.f0 s.f1 bt153.1 bt153.2.1).bind fun bt157 => (if bt153.2.2 = true then (if bt157.2.2 = true then (spec_MultiplyTables.l2 k a b x6 i x8 j ((q + 1 : Nat) : Int) bt157.1 bt157.2.1) else (some (([] : List (List (S79))), 3))) else (some (([] : List (List (S79))), 3))))) (fun k => ?_) ?_
    · simp only [spec_MultiplyTables.l2]
      rw [if_pos (by omega), if_pos (by omega), if_pos (by omega), if_pos (by omega), if_pos (by omega), if_pos (by omega), if_pos (by omega), wrap_nat _ (by omega)]
    · refine Ev.bind (f := fun k bt153 => ((spec_l01Plus.f k s.f0 s.f1 bt153.1 bt153.2.1).bind fun bt157 => (if bt153.2.2 = true then (if bt157.2.2 = true then (spec_MultiplyTables.l2 k a b x6 i x8 j ((q + 1 : Nat) : Int) bt157.1 bt157.2.1) else (some (([] : List (List (S79))), 3))) else (some (([] : List (List (S79))), 3))))) ht ?_
      generalize hT : timesF (rd_T79 (rd_L4 a (i : Int)) (q : Int)) (rd_T79 (rd_L4 b (q : Int)) (j : Int)) = T at h
      by_cases f1 : fitF T.f0 T.f1 = true
      · rw [if_pos f1] at h
        rw [if_pos f1]
        have hp := spec_plus_f s T hs f1
        by_cases f2 : fitF (plusF s T).f0 (plusF s T).f1 = true
        · rw [if_pos f2] at h hp
          refine Ev.bind (f := fun k bt157 => (if true = true then (if bt157.2.2 = true then (spec_MultiplyTables.l2 k a b x6 i x8 j ((q + 1 : Nat) : Int) bt157.1 bt157.2.1) else (some (([] : List (List (S79))), 3))) else (some (([] : List (List (S79))), 3)))) hp ?_
          exact spec_cell a b n hn ha hb x6 x8 h8 i j hi hj R e (q + 1) (plusF s T) (by omega) f2 h
        · rw [if_neg f2] at h hp
          subst h
          refine Ev.bind (f := fun k bt157 => (if true = true then (if bt157.2.2 = true then (spec_MultiplyTables.l2 k a b x6 i x8 j ((q + 1 : Nat) : Int) bt157.1 bt157.2.1) else (some (([] : List (List (S79))), 3))) else (some (([] : List (List (S79))), 3)))) hp ?_
          exact Ev.now _
      · rw [if_neg f1] at h
        rw [if_neg f1]
        subst h
        refine Ev.bind (f := fun k bt157 => (if false = true then (if bt157.2.2 = true then (spec_MultiplyTables.l2 k a b x6 i x8 j ((q + 1 : Nat) : Int) bt157.1 bt157.2.1) else (some (([] : List (List (S79))), 3))) else (some (([] : List (List (S79))), 3)))) (spec_plus_0 s.f0 s.f1) ?_
        exact Ev.now _
theorem ok01 : okF2 (⟨0, 1⟩ : S79) := by unfold okF2; decide
/-- A row from a column on. -/
def rowF (a b : List (List S79)) (n i : Nat) : Nat → Nat → Option (List S79)
  | 0, _ => some []
  | e + 1, j => match cellF a b i j n 0 ⟨0, 1⟩ with
    | none => none
    | some c => match rowF a b n i e (j + 1) with
      | none => none
      | some cs => some (c :: cs)
theorem spec_row (a b : List (List S79)) (n : Nat) (hn : n ≤ 6) (ha : Sq a n) (hb : Sq b n) (x6 : List (List S79)) (h6 : x6.length ≤ 6) (i : Nat) (hi : i < n) (R : List (List S79) × Int) :
    ∀ e j (x8 : List S79), j + e = n → x8.length = j → (match rowF a b n i e j with | none => R = ([], 3) | some cs => Ev (fun k => spec_MultiplyTables.l0 k a b (x6 ++ [x8 ++ cs]) ((i + 1 : Nat) : Int)) R) →
    Ev (fun k => spec_MultiplyTables.l1 k a b x6 (i : Int) x8 (j : Int)) R
  | 0, j, x8, hj, h8, h => by
    have hbl := hb.1
    simp only [rowF, List.append_nil] at h
    refine Ev.step (fun k => ?_) h
    simp only [spec_MultiplyTables.l1]
    rw [if_neg (by omega), if_pos (by omega), wrap_nat _ (by omega)]
  | e + 1, j, x8, hj, h8, h => by
    have hbl := hb.1
    refine Ev.step (f := fun k => spec_MultiplyTables.l2 k a b x6 (i : Int) x8 (j : Int) ((0 : Nat) : Int) (⟨0, 1⟩ : S79).f0 (⟨0, 1⟩ : S79).f1) (fun k => ?_) ?_
    · simp only [spec_MultiplyTables.l1]
      rw [if_pos (by omega)]
      rfl
    · refine spec_cell a b n hn ha hb x6 x8 (by omega) i j hi (by omega) R n 0 ⟨0, 1⟩ (by omega) ok01 ?_
      unfold rowF at h
      cases hc : cellF a b i j n 0 ⟨0, 1⟩ with
      | none => rw [hc] at h; exact h
      | some c =>
        rw [hc] at h
        refine spec_row a b n hn ha hb x6 h6 i hi R e (j + 1) (x8 ++ [c]) (by omega) (by simp [h8]) ?_
        cases hr : rowF a b n i e (j + 1) with
        | none => simp only [hr] at h; exact h
        | some cs => simp only [hr] at h; dsimp only; rw [List.append_assoc x8 [c] cs]; exact h
/-- The rows from a row on. -/
def matF (a b : List (List S79)) (n : Nat) : Nat → Nat → Option (List (List S79))
  | 0, _ => some []
  | e + 1, i => match rowF a b n i n 0 with
    | none => none
    | some r => match matF a b n e (i + 1) with
      | none => none
      | some rs => some (r :: rs)
theorem spec_mat (a b : List (List S79)) (n : Nat) (hn : n ≤ 6) (ha : Sq a n) (hb : Sq b n) (R : List (List S79) × Int) :
    ∀ e i (x6 : List (List S79)), i + e = n → x6.length = i → (match matF a b n e i with | none => R = ([], 3) | some rs => R = (x6 ++ rs, 0)) →
    Ev (fun k => spec_MultiplyTables.l0 k a b x6 (i : Int)) R
  | 0, i, x6, hi, h6, h => by
    have hal := ha.1
    simp only [matF, List.append_nil] at h
    subst h
    refine Ev.step (f := fun _ => some (x6, 0)) (fun k => ?_) (Ev.now _)
    simp only [spec_MultiplyTables.l0]
    rw [if_neg (by omega)]
  | e + 1, i, x6, hi, h6, h => by
    have hal := ha.1
    refine Ev.step (f := fun k => spec_MultiplyTables.l1 k a b x6 (i : Int) [] ((0 : Nat) : Int)) (fun k => ?_) ?_
    · simp only [spec_MultiplyTables.l0]
      rw [if_pos (by omega)]
      rfl
    · refine spec_row a b n hn ha hb x6 (by omega) i (by omega) R n 0 [] (by omega) rfl ?_
      unfold matF at h
      cases hc : rowF a b n i n 0 with
      | none => rw [hc] at h; exact h
      | some r =>
        rw [hc] at h
        refine spec_mat a b n hn ha hb R e (i + 1) (x6 ++ [[] ++ r]) (by omega) (by simp [h6]) ?_
        cases hr : matF a b n e (i + 1) with
        | none => simp only [hr] at h; exact h
        | some rs => simp only [hr] at h; dsimp only; rw [List.append_assoc x6 [[] ++ r] rs]; exact h
end Go.Proofs.Ytfbkjlgibpmpoaa.Pure
