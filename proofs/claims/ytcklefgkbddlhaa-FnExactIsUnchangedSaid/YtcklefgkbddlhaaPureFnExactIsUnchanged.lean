/- The law on IsUnchanged: both programs come to the same, and the law returns true. -/
import Derived.Test.YtcklefgkbddlhaaPx10
import Derived.Test.YtcklefgkbddlhaaPx19
import Derived.Test.YtcklefgkbddlhaaPx21
import Derived.Test.YtcklefgkbddlhaaBaseLawM
import Derived.Test.YtcklefgkbddlhaaPureFnExactMapSeries
namespace Go.Proofs.Ytcklefgkbddlhaa.Pure
open Go.RowKit Go.Proofs.Ytcklefgkbddlhaa.P Go.Proofs.Ytcklefgkbddlhaa.Tab Go.Proofs.YtcklefgkbddlhaaW.PrintWords Go.Proofs.YtcklefgkbddlhaaW.PrintLast
set_option linter.unusedVariables false
set_option linter.unusedSimpArgs false

/-- Two terms are the same. -/
def eqTm (a b : S89) : Bool := ((a.f0.toList) == (b.f0.toList) && ((a.f1.f0 == b.f1.f0) && (a.f1.f1 == b.f1.f1)))
theorem eqTm_comm (a b : S89) : eqTm a b = eqTm b a := by
  unfold eqTm
  rw [Bool.beq_comm (a := a.f0.toList), Bool.beq_comm (a := a.f1.f0), Bool.beq_comm (a := a.f1.f1)]
def sameFrom (x y : List S89) : Nat → Nat → Bool
  | 0, _ => true
  | m + 1, i => eqTm (rd_T89 y (i : Int)) (rd_T89 x (i : Int)) && sameFrom x y m (i + 1)
def sameTs (x y : List S89) : Bool := decide (x.length = y.length) && sameFrom x y x.length 0
section
variable (x y : List S89) (hx : x.length ≤ 1048576) (hxy : x.length = y.length)
include hx hxy
theorem spec_same (a b c d : Int) : ∀ m i (s : Bool), i + m = x.length → Ev (fun k => spec_IsUnchanged.l0 k s (i : Int) a b x c d y) (s && sameFrom x y m i, 0)
  | 0, i, s, hi => by
    refine Ev.step (f := fun _ => some (s && true, 0)) (fun k => ?_) (Ev.now _)
    rw [spec_IsUnchanged.l0, if_neg (by omega), Bool.and_true]
  | m + 1, i, s, hi => by
    cases s with
    | false =>
      rw [Bool.false_and]
      refine Ev.step (f := fun _ => some (false, 0)) (fun k => ?_) (Ev.now _)
      rw [spec_IsUnchanged.l0, if_pos (by omega), if_neg (by simp)]
    | true =>
      rw [Bool.true_and, sameFrom]
      refine Ev.step (fun k => ?_) (spec_same a b c d m (i + 1) (eqTm (rd_T89 y (i : Int)) (rd_T89 x (i : Int))) (by omega))
      rw [spec_IsUnchanged.l0, if_pos (by omega), if_pos rfl, if_pos (by omega), if_pos (by omega), wrap_nat _ (by omega)]
      rfl
theorem impl_same : ∀ m i, i + m = x.length → Ev (fun k => impl_Term.l0 k x y (x.length : Int) (i : Int)) (sameFrom x y m i)
  | 0, i, hi => by
    refine Ev.step (f := fun _ => some true) (fun k => ?_) (Ev.now _)
    rw [impl_Term.l0, if_neg (by omega)]
  | m + 1, i, hi => by
    rw [sameFrom]
    have e : (!((((rd_T89 x (i : Int)).f0).toList) == (((rd_T89 y (i : Int)).f0).toList)) || ((!(((rd_T89 x (i : Int)).f1.f0) == ((rd_T89 y (i : Int)).f1.f0)) || (!(((rd_T89 x (i : Int)).f1.f1) == ((rd_T89 y (i : Int)).f1.f1)))))) = !(eqTm (rd_T89 y (i : Int)) (rd_T89 x (i : Int))) := by
      rw [eqTm_comm]
      unfold eqTm
      rw [Bool.not_and, Bool.not_and]
    cases hb : eqTm (rd_T89 y (i : Int)) (rd_T89 x (i : Int)) with
    | true =>
      rw [Bool.true_and]
      refine Ev.step (fun k => ?_) (impl_same m (i + 1) (by omega))
      rw [impl_Term.l0, if_pos (by omega), if_pos (by omega), if_pos (by omega), if_pos (by omega), e, hb, if_neg (by simp), wrap_nat _ (by omega)]
    | false =>
      rw [Bool.false_and]
      refine Ev.step (f := fun _ => some false) (fun k => ?_) (Ev.now _)
      rw [impl_Term.l0, if_pos (by omega), if_pos (by omega), if_pos (by omega), if_pos (by omega), e, hb, if_pos (by simp)]
end
/-- What both programs return. -/
def unchRes (d n : Int) (l : List S89) (rows : List (List Int)) : Bool × Int := if (mapRes d n l d rows).2.2.2 = 0 then (sameTs l (mapRes d n l d rows).2.2.1, 0) else (false, (mapRes d n l d rows).2.2.2)
theorem mapRes_like (d n e : Int) (l : List S89) (rows : List (List Int)) (h : (mapRes d n l e rows).2.2.2 = 0) : (mapRes d n l e rows).1 = e ∧ (mapRes d n l e rows).2.1 = n := by
  unfold mapRes at h ⊢
  split at h
  · rename_i h1
    rw [if_pos h1]
    split at h
    · rename_i h2
      rw [if_pos h2]
      unfold toldOf at h ⊢
      split at h
      · exact absurd h (by decide)
      · rename_i h3
        rw [if_neg h3]
        exact ⟨rfl, rfl⟩
    · exact absurd h (by decide)
  · exact absurd h (by decide)
section
variable {d n : Int} {l : List S89} {rows : List (List Int)}
theorem spec_unch_f (hS : Small l) : Ev (fun k => spec_IsUnchanged.f k d n l rows) (unchRes d n l rows) := by
  refine Ev.bind (f := fun (k : Nat) (bt : Int × Int × List S89 × Int) => (if bt.2.2.2 = 0 then (spec_IsUnchanged.l0 k ((bt.2.2.1.length : Int) == (l.length : Int)) 0 d n l bt.1 bt.2.1 bt.2.2.1) else (some (false, bt.2.2.2)))) (spec_map_f (e := d) (rows := rows) hS) ?_
  unfold unchRes
  generalize mapRes d n l d rows = R
  obtain ⟨t1, t2, t3, t4⟩ := R
  dsimp only
  by_cases h0 : t4 = 0
  · rw [if_pos h0]
    refine Ev.congr (fun k => if_pos h0) ?_
    by_cases hlen : l.length = t3.length
    · rw [show ((t3.length : Int) == (l.length : Int)) = true from by simp [hlen]]
      have h := spec_same l t3 hS.1 hlen d n t1 t2 l.length 0 true (by omega)
      rw [sameTs, decide_eq_true hlen]
      exact h
    · rw [show ((t3.length : Int) == (l.length : Int)) = false from beq_eq_false_iff_ne.2 (by omega), sameTs, decide_eq_false hlen, Bool.false_and]
      by_cases hl : 0 < l.length
      · refine Ev.step (f := fun _ => some (false, 0)) (fun k => ?_) (Ev.now _)
        rw [spec_IsUnchanged.l0, if_pos (by omega), if_neg (by simp)]
      · refine Ev.step (f := fun _ => some (false, 0)) (fun k => ?_) (Ev.now _)
        rw [spec_IsUnchanged.l0, if_neg (by omega)]
  · rw [if_neg h0]
    exact Ev.congr (fun k => if_neg h0) (Ev.now _)
theorem impl_unch_f (hS : Small l) : Ev (fun k => impl_IsUnchanged.f k d n l rows) (unchRes d n l rows) := by
  refine Ev.bind (f := fun (k : Nat) (bt : Int × Int × List S89 × Int) => (if bt.2.2.2 = 0 then ((impl_equalSeries.f k d n l bt.1 bt.2.1 bt.2.2.1).bind fun (t : Bool) => (some (t, bt.2.2.2))) else (some (false, bt.2.2.2)))) (impl_map_f (e := d) (rows := rows) hS) ?_
  have hlike := mapRes_like d n d l rows
  unfold unchRes
  generalize mapRes d n l d rows = R at hlike ⊢
  obtain ⟨t1, t2, t3, t4⟩ := R
  dsimp only at hlike ⊢
  by_cases h0 : t4 = 0
  · obtain ⟨rfl, rfl⟩ := hlike h0
    subst h0
    rw [if_pos rfl]
    refine Ev.congr (fun k => if_pos rfl) ?_
    have he : Ev (fun k => impl_equalSeries.f k t1 t2 l t1 t2 t3) (sameTs l t3) := by
      unfold sameTs
      by_cases hlen : l.length = t3.length
      · rw [decide_eq_true hlen, Bool.true_and]
        refine Ev.congr (f := fun k => (impl_Term.l0 k l t3 (l.length : Int) ((0 : Nat) : Int)).bind fun t => some t) (fun k => ?_) (Ev.bind (f := fun _ t => some t) (impl_same l t3 hS.1 hlen l.length 0 (by omega)) (Ev.now _))
        unfold impl_equalSeries.f impl_areAlike.f impl_Term.f
        rw [if_pos rfl, Option.bind_some, if_pos (by simp), if_pos (by omega)]
        rfl
      · rw [decide_eq_false hlen, Bool.false_and]
        refine Ev.congr (f := fun _ => some false) (fun k => ?_) (Ev.now _)
        unfold impl_equalSeries.f impl_areAlike.f impl_Term.f
        rw [if_pos rfl, Option.bind_some, if_pos (by simp), if_neg (by omega)]
        rfl
    exact Ev.bind (f := fun (_ : Nat) (t : Bool) => some (t, (0 : Int))) he (Ev.now _)
  · rw [if_neg h0]
    exact Ev.congr (fun k => if_neg h0) (Ev.now _)
end
theorem unch_law (d n : Int) (l : List S124) (T : List (List Int)) (hw : ∀ x ∈ l, x.f0.size ≤ maxLen) (hl : l.length ≤ maxLen) (hr : ∀ r ∈ T, r.length ≤ 9223372036854775807) (hT : T.length ≤ 9223372036854775807) : ∃ k, laws_FnExactIsUnchanged.f k d n l T = some true := by
  have hM : maxLen = 9223372036854775807 := rfl
  obtain ⟨t0, g0, L0⟩ := szSeries_f 5000000 d n l 1048576 hw hl (by decide) (by decide) (by decide)
  by_cases c0 : t0 < 0
  · exact ⟨5000000, by unfold laws_FnExactIsUnchanged.f; rw [g0, Option.bind_some, if_pos c0]⟩
  · rcases L0 with L0 | ⟨a0, b0, e0, f0⟩
    · exact absurd L0 c0
    obtain ⟨u0, g1, L1⟩ := szSS_f 5000000 T t0 hr hT (by decide) a0 (by omega)
    by_cases c1 : u0 < 0
    · exact ⟨5000000, by unfold laws_FnExactIsUnchanged.f; rw [g0, Option.bind_some, if_neg c0, g1, Option.bind_some, if_pos c1]⟩
    have hS : Small (l.map tmOf) := ⟨by rw [List.length_map]; omega, tmOf_mem (fun x hx => by have := f0 x hx; omega)⟩
    obtain ⟨K0, H0⟩ := impl_unch_f (d := d) (n := n) (rows := T) hS
    obtain ⟨K1, H1⟩ := spec_unch_f (d := d) (n := n) (rows := T) hS
    obtain ⟨k, hk0, hk1, hk2⟩ : ∃ k : Nat, K0 ≤ k + 1 ∧ K1 ≤ k + 1 ∧ 5000000 ≤ k := ⟨max (max K0 K1) 5000000, by omega, by omega, by omega⟩
    have I := H0 (k + 1) hk0
    have S := H1 (k + 1) hk1
    dsimp only at I S
    have Z := at_rounds (fun k => laws_szSeries.mono d n l 1048576 k) (show 5000000 ≤ k + 1 by omega) g0
    have Z1 := at_rounds (fun k => laws_szInt64SS.mono T t0 k) (show 5000000 ≤ k + 1 by omega) g1
    have hml : (l.map tmOf).length = l.length := List.length_map _
    have TS := toSeries_f (k + 1) d n l (by omega) (by omega)
    have TS' := toSeries_f k d n l (by omega) (by omega)
    have ES := eqSeries_f k d n (l.map tmOf) (by omega) (by omega)
    have TR := toSS_f (k + 1) T (by omega) (by omega) (by omega)
    have TR' := toSS_f k T (by omega) (by omega) (by omega)
    have ER := eqSS_f k T (by omega) (by omega) (by omega)
    refine ⟨k + 1, ?_⟩
    unfold laws_FnExactIsUnchanged.f
    simp only [Z, Z1, TS, TR, S, I, Option.bind_some, c0, c1, if_false, if_true, bne_self_eq_false, laws_FnExactIsUnchanged.j0, TS', TR', ES, ER, Bool.false_eq_true]
end Go.Proofs.Ytcklefgkbddlhaa.Pure
