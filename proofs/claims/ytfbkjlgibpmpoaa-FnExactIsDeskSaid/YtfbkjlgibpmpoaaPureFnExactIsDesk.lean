/- For every desk the program's IsDesk returns what the reference's returns, and leaves the desk as it was. -/
import Derived.Test.YtfbkjlgibpmpoaaPx11
import Derived.Test.YtfbkjlgibpmpoaaBaseLaw
import Derived.Test.YtfbkjlgibpmpoaaBaseSer
import Derived.Test.YtfbkjlgibpmpoaaBasePth
namespace Go.Proofs.Ytfbkjlgibpmpoaa.Pure
open Go.RowKit Go.Proofs.Ytfbkjlgibpmpoaa.P Go.Proofs.YtfbkjlgibpmpoaaW.PrintWords Go.Proofs.YtfbkjlgibpmpoaaW.PrintLast
set_option linter.unusedVariables false
set_option linter.unusedSimpArgs false

def deskOk (d n : Int) (l : List S99) (d' n' : Int) (l' : List S99) (r : List (List Int)) : Bool := serOk d n l && (serOk d' n' l' && ((decide (d = d') && decide (n = n')) && isPth d r))
theorem impl_isDesk_f (d n : Int) (l : List S99) (d' n' : Int) (l' : List S99) (r : List (List Int)) (hl : Small l) (hl' : Small l') : Ev (fun k => impl_IsDesk.f k d n l d' n' l' r) (deskOk d n l d' n' l' r) := by
  unfold impl_IsDesk.f deskOk
  refine Ev.bind (impl_isSeries_f d n l hl) ?_
  cases serOk d n l with
  | false => exact Ev.congr (f := fun _ => some false) (fun k => if_neg (by decide)) (Ev.now _)
  | true =>
    refine Ev.congr (fun k => if_pos rfl) (Ev.bind (impl_isSeries_f d' n' l' hl') ?_)
    cases serOk d' n' l' with
    | false => exact Ev.congr (f := fun _ => some false) (fun k => if_neg (by decide)) (Ev.now _)
    | true =>
      refine Ev.congr (f := fun _ => some ((decide (d = d') && decide (n = n')) && isPth d r)) (fun k => ?_) (Ev.now _)
      rw [if_pos rfl, impl_IsPath_f]
      unfold impl_areAlike.f
      by_cases h1 : d = d'
      · by_cases h2 : n = n'
        · simp [h1, h2]
        · simp [h1, h2]
      · simp [h1]
theorem spec_isDesk_f (d n : Int) (l : List S99) (d' n' : Int) (l' : List S99) (r : List (List Int)) (hl : Small l) (hl' : Small l') (hr : r.length ≤ 1048576) : Ev (fun k => spec_IsDesk.f k d n l d' n' l' r) (deskOk d n l d' n' l' r) := by
  have hrd : rd_T24 [(⟨d', n', l'⟩ : S24)] 0 = ⟨d', n', l'⟩ := rfl
  have hP : Ev (fun k => spec_l04Is.f k d r) (isPth d r) := ⟨100, fun k hk => spec_l04Is_f k d r hk (by omega)⟩
  have h1 : Ev (fun k => spec_l01Code.l1 k [(⟨d', n', l'⟩ : S24)] 0 d n l) (if d = d' ∧ n = n' then 0 else 2) := by
    by_cases h : d = d' ∧ n = n'
    · rw [if_pos h]
      refine Ev.step (f := fun k => spec_l01Code.l1 k [(⟨d', n', l'⟩ : S24)] 1 d n l) (fun k => ?_) ?_
      · simp only [spec_l01Code.l1, hrd]
        unfold spec_l01Alike.f
        simp [h.1, h.2, show wrap64 1 = 1 from by unfold wrap64; decide]
      · refine Ev.step (f := fun _ => some 0) (fun k => ?_) (Ev.now _)
        simp only [spec_l01Code.l1]
        simp
    · rw [if_neg h]
      refine Ev.step (f := fun _ => some 2) (fun k => ?_) (Ev.now _)
      simp only [spec_l01Code.l1, hrd]
      unfold spec_l01Alike.f
      by_cases h1 : d = d'
      · by_cases h2 : n = n'
        · exact absurd ⟨h1, h2⟩ h
        · simp [h1, h2]
      · simp [h1]
  have h0 : Ev (fun k => spec_l01Code.l0 k [(⟨d', n', l'⟩ : S24)] 0 d n l) (if serOk d' n' l' = true then (if d = d' ∧ n = n' then 0 else 2) else 1) := by
    refine Ev.step (f := fun k => (spec_l01Is.f k d' n' l').bind fun t => (if t = true then spec_l01Code.l0 k [(⟨d', n', l'⟩ : S24)] 1 d n l else some 1)) (fun k => ?_) ?_
    · simp only [spec_l01Code.l0, hrd]
      simp [show wrap64 1 = 1 from by unfold wrap64; decide]
    · refine Ev.bind (spec_is_f d' n' l' hl') ?_
      cases serOk d' n' l' with
      | false => exact Ev.congr (f := fun _ => some 1) (fun k => if_neg (by decide)) (Ev.now _)
      | true =>
        refine Ev.congr (fun k => if_pos rfl) ?_
        refine Ev.step (fun k => ?_) h1
        simp only [spec_l01Code.l0]
        simp
  have hc : Ev (fun k => spec_l01Code.f k d n l [(⟨d', n', l'⟩ : S24)]) (if serOk d n l = true then (if serOk d' n' l' = true then (if d = d' ∧ n = n' then 0 else 2) else 1) else 1) := by
    unfold spec_l01Code.f
    refine Ev.bind (spec_is_f d n l hl) ?_
    cases serOk d n l with
    | false => exact Ev.congr (f := fun _ => some 1) (fun k => if_neg (by decide)) (Ev.now _)
    | true => exact Ev.congr (fun k => if_pos rfl) h0
  unfold spec_IsDesk.f deskOk
  refine Ev.bind hc ?_
  cases serOk d n l with
  | false => exact Ev.congr (f := fun _ => some false) (fun k => if_neg (by simp)) (Ev.now _)
  | true =>
    cases serOk d' n' l' with
    | false => exact Ev.congr (f := fun _ => some false) (fun k => if_neg (by simp)) (Ev.now _)
    | true =>
      by_cases h : d = d' ∧ n = n'
      · have e : (if true = true then (if true = true then (if d = d' ∧ n = n' then (0 : Int) else 2) else 1) else 1) = 0 := by simp [h]
        rw [e, decide_eq_true h.1, decide_eq_true h.2]
        refine Ev.congr (fun k => if_pos rfl) (Ev.bind (f := fun _ t => some t) hP (Ev.now _))
      · have e : (if true = true then (if true = true then (if d = d' ∧ n = n' then (0 : Int) else 2) else 1) else 1) = 2 := by simp [h]
        rw [e, show (true && (true && (decide (d = d') && decide (n = n') && isPth d r))) = false from by
          by_cases h1 : d = d'
          · by_cases h2 : n = n'
            · exact absurd ⟨h1, h2⟩ h
            · simp [h2]
          · simp [h1]]
        exact Ev.congr (f := fun _ => some false) (fun k => if_neg (by decide)) (Ev.now _)
theorem isDesk_law (d n : Int) (l : List S163) (d' n' : Int) (l' : List S163) (r : List (List Int)) (hw : ∀ x ∈ l, x.f0.size ≤ maxLen) (hl : l.length ≤ maxLen) (hw' : ∀ x ∈ l', x.f0.size ≤ maxLen) (hl' : l'.length ≤ maxLen) (hr : r.length ≤ maxLen) (hrr : ∀ q ∈ r, q.length ≤ maxLen) :
    ∃ k, laws_FnExactIsDesk.f k d n l d' n' l' r = some true := by
  have hM : maxLen = 9223372036854775807 := rfl
  obtain ⟨t0, g0, L0⟩ := szSeries_f 5000000 d n l 1048576 hw hl (by decide) (by decide) (by decide)
  have dead : ∀ k v, laws_szDesk.f k d n l d' n' l' r 1048576 = some v → v < 0 → laws_FnExactIsDesk.f k d n l d' n' l' r = some true := by
    intro k v h hv
    unfold laws_FnExactIsDesk.f
    rw [h, Option.bind_some, if_pos hv]
  by_cases c0 : t0 < 0
  · refine ⟨5000000, dead _ (-1) ?_ (by decide)⟩
    unfold laws_szDesk.f
    rw [g0, Option.bind_some, if_pos c0]
  · rcases L0 with L0 | ⟨a0, b0, e0, f0⟩
    · exact absurd L0 c0
    obtain ⟨t1, g1, L1⟩ := szSeries_f 5000000 d' n' l' t0 hw' hl' (by decide) a0 b0
    by_cases c1 : t1 < 0
    · refine ⟨5000000, dead _ (-1) ?_ (by decide)⟩
      unfold laws_szDesk.f
      rw [g0, Option.bind_some, if_neg c0, g1, Option.bind_some, if_pos c1]
    · rcases L1 with L1 | ⟨a1, b1, e1, f1⟩
      · exact absurd L1 c1
      obtain ⟨t2, g2, L2⟩ := szSS_f 5000000 r t1 hrr hr (by decide) a1 (by omega)
      by_cases c2 : t2 < 0
      · refine ⟨5000000, dead _ (-1) ?_ (by decide)⟩
        unfold laws_szDesk.f
        rw [g0, Option.bind_some, if_neg c0, g1, Option.bind_some, if_neg c1, g2, Option.bind_some, if_pos c2]
      · rcases L2 with L2 | ⟨a2, b2⟩
        · exact absurd L2 c2
        have hS : Small (l.map tmOf) := ⟨by rw [List.length_map]; omega, tmOf_mem (fun x hx => by have := f0 x hx; omega)⟩
        have hS' : Small (l'.map tmOf) := ⟨by rw [List.length_map]; omega, tmOf_mem (fun x hx => by have := f1 x hx; omega)⟩
        obtain ⟨K0, H0⟩ := impl_isDesk_f d n (l.map tmOf) d' n' (l'.map tmOf) r hS hS'
        obtain ⟨K1, H1⟩ := spec_isDesk_f d n (l.map tmOf) d' n' (l'.map tmOf) r hS hS' (by omega)
        obtain ⟨k, hk0, hk1, hk2⟩ : ∃ k : Nat, K0 ≤ k ∧ K1 ≤ k ∧ 5000000 ≤ k := ⟨max (max K0 K1) 5000000, by omega, by omega, by omega⟩
        have I := H0 k hk0
        have S := H1 k hk1
        dsimp only at I S
        have g0' := at_rounds (fun k => laws_szSeries.mono d n l 1048576 k) hk2 g0
        have g1' := at_rounds (fun k => laws_szSeries.mono d' n' l' t0 k) hk2 g1
        have g2' := at_rounds (fun k => laws_szInt64SS.mono r t1 k) hk2 g2
        have Z : laws_szDesk.f k d n l d' n' l' r 1048576 = some t2 := by
          unfold laws_szDesk.f
          rw [g0', Option.bind_some, if_neg c0, g1', Option.bind_some, if_neg c1, g2', Option.bind_some, if_neg c2]
        have T : laws_toDesk.f k d n l d' n' l' r = some (d, n, l.map tmOf, d', n', l'.map tmOf, r) := by
          unfold laws_toDesk.f
          rw [toSeries_f k d n l (by omega) (by omega), toSeries_f k d' n' l' (by omega) (by omega), toSS_f k r (by omega) (by omega) (by omega)]
          rfl
        have E : laws_eqDesk.f k d n (l.map tmOf) d' n' (l'.map tmOf) r d n (l.map tmOf) d' n' (l'.map tmOf) r = some true := by
          unfold laws_eqDesk.f
          rw [eqSeries_f k d n _ hS.1 (by have := hS.1; omega), eqSeries_f k d' n' _ hS'.1 (by have := hS'.1; omega), eqSS_f k r (by omega) (by omega) (by omega)]
          rfl
        refine ⟨k, ?_⟩
        unfold laws_FnExactIsDesk.f
        simp only [Z, T, S, I, E, Option.bind_some, c2, if_false, if_true, bne_self_eq_false, Bool.false_eq_true]
end Go.Proofs.Ytfbkjlgibpmpoaa.Pure
