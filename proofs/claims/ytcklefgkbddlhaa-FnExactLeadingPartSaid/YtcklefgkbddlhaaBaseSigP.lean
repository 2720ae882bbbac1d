/- Plain lemmas: the exponential of a step, and the signature of a group word, as the program reckons them. -/
import Derived.Test.YtcklefgkbddlhaaPx12
import Derived.Test.YtcklefgkbddlhaaBaseSigT
import Derived.Test.YtcklefgkbddlhaaBaseStepQ
namespace Go.Proofs.Ytcklefgkbddlhaa.Pure
open Go.RowKit Go.Proofs.Ytcklefgkbddlhaa.P Go.Proofs.Ytcklefgkbddlhaa.Tab Go.Proofs.YtcklefgkbddlhaaW.PrintWords Go.Proofs.YtcklefgkbddlhaaW.PrintLast
set_option linter.unusedVariables false
set_option linter.unusedSimpArgs false

theorem factorial_l0 (n : Nat) (hn : n ≤ 5) : ∀ e i, 1 ≤ i → i + e = n + 1 → Ev (fun k => impl_factorial.l0 k (n : Int) (fct (i - 1) : Int) (i : Int)) (fct n : Int) := by
  intro e
  induction e with
  | zero =>
    intro i h1 hi
    refine Ev.step (f := fun _ => some (fct (i - 1) : Int)) (fun k => ?_) ?_
    · rw [impl_factorial.l0, if_neg (by omega)]
    · rw [show i - 1 = n by omega]; exact Ev.now _
  | succ e ih =>
    intro i h1 hi
    obtain ⟨q, rfl⟩ : ∃ q, i = q + 1 := ⟨i - 1, by omega⟩
    refine Ev.step (fun k => ?_) (ih (q + 1 + 1) (by omega) (by omega))
    have hf := fct_small (q + 1) (by omega)
    rw [impl_factorial.l0, if_pos (by omega)]
    simp only [Nat.add_sub_cancel]
    rw [wrap_nat _ (by omega)]
    have e : ((fct q : Nat) : Int) * ((q + 1 : Nat) : Int) = (fct (q + 1) : Int) := by rw [fct, Int.natCast_mul, Int.mul_comm]
    rw [e, wrap_of _ (by omega) (by omega)]
theorem factorial_f (n : Nat) (hn : n ≤ 5) : Ev (fun k => impl_factorial.f k (n : Int)) (fct n : Int) := by
  by_cases h : n = 0
  · subst h
    refine Ev.step (f := fun _ => some 1) (fun k => ?_) (Ev.now _)
    unfold impl_factorial.f
    rw [impl_factorial.l0, if_neg (by decide)]
  · have := factorial_l0 n hn (n - 1) 2 (by omega) (by omega)
    exact this
section
variable {D N : Nat} {ws : List ByteArray} (hnum : Numbered D N ws) (hN : N ≤ 5) (hok : ∀ w ∈ ws, okW D w ∧ w.size ≤ N) (hinj : ∀ (i j : Nat) (v : ByteArray), ws[i]? = some v → ws[j]? = some v → i = j)
theorem stepA_small (c : UInt8) (s : Int) (hs : s = 1 ∨ s = -1) (w : List UInt8) : (stepA c s w).natAbs ≤ 1 := by
  unfold stepA
  split
  · rcases hs with rfl | rfl <;> decide
  · decide
theorem powA_small (c : UInt8) (s : Int) (hs : s = 1 ∨ s = -1) (k : Nat) (hk : k ≤ 5) (w : List UInt8) : (powA c s k w).natAbs ≤ 120 := by
  unfold powA
  split
  · rw [Int.natAbs_mul]
    have h1 := pow_sign s hs k
    have h2 := fct_small k hk
    rw [Int.natAbs_natCast]
    exact Nat.le_trans (Nat.mul_le_mul h1 h2) (by decide)
  · decide
theorem partA_small (c : UInt8) (s : Int) (hs : s = 1 ∨ s = -1) (k : Nat) (w : List UInt8) : (partA c s k w).natAbs ≤ 1 := by
  unfold partA
  split
  · exact pow_sign s hs k
  · decide
theorem powA_part (c : UInt8) (s : Int) (k : Nat) (w : List UInt8) : powA c s k w = partA c s k w * (fct k : Int) := by
  unfold powA partA
  split
  · rfl
  · simp
include hnum hN hok hinj
theorem nextP_ev (c : UInt8) (s : Int) (hs : s = 1 ∨ s = -1) (i : Nat) (hi : i ≤ N) : Ev (fun k => nextP k (D : Int) ws (tabP ws (stepA c s)) false i (tabP ws (powA c s (i - 1))) false) (tabP ws (powA c s i), false) := by
  unfold nextP
  by_cases h0 : i = 0
  · subst h0
    exact Ev.congr (fun k => if_pos rfl) (Ev.now _)
  · obtain ⟨q, rfl⟩ : ∃ q, i = q + 1 := ⟨i - 1, by omega⟩
    refine Ev.congr (fun k => if_neg (by omega)) ?_
    have h := timesO_ev hnum hN hok hinj (powA c s q) (stepA c s) (fun v _ => Nat.le_trans (powA_small c s hs q (by omega) v) (by decide)) (fun v _ => Nat.le_trans (stepA_small c s hs v) (by decide)) (fun w hw j hj => ?_) (false || false) ws [] rfl
    · have e := tabP_congr ws (conv (powA c s q) (stepA c s)) (powA c s (q + 1)) (fun w hw => powA_succ c s q w.toList (by rw [tl_length]; have := (hok w hw).2; omega))
      rw [e] at h
      exact h
    · rw [cv_one (powA c s q) (stepA c s) w.toList q (pow_zero c s q w.toList) j (by rw [tl_length]; exact hj)]
      split
      · rw [Int.natAbs_mul, Int.natAbs_mul, Int.natAbs_natCast]
        have h1 := bin_small w.toList.length (by rw [tl_length]; have := (hok w hw).2; omega) q
        have h2 := powA_small c s hs q (by omega) (w.toList.take q)
        have h3 := stepA_small c s hs (w.toList.drop q)
        exact Nat.le_trans (Nat.mul_le_mul h1 (Nat.mul_le_mul h2 h3)) (by decide)
      · decide
theorem powersL_ev (c : UInt8) (s : Int) (hs : s = 1 ∨ s = -1) : ∀ e i, i + e = N + 1 →
    Ev (fun k => powersL k (D : Int) ws (tabP ws (stepA c s)) false e i (tabP ws (expA c s i)) false (tabP ws (powA c s (i - 1))) false) (tabP ws (expA c s (N + 1)), false)
  | 0, i, h => by
    rw [show i = N + 1 by omega]
    exact Ev.now _
  | e + 1, i, h => by
    have ih := powersL_ev c s hs e (i + 1) (by omega)
    rw [Nat.add_sub_cancel] at ih
    have hp := nextP_ev hnum hN hok hinj c s hs i (by omega)
    have hf := factorial_f i (by omega)
    have hfs := fct_small i (by omega)
    have hfp := fct_pos i
    refine Ev.bind (f := fun (k : Nat) (p : List S27 × Bool) => if p.1.length = ws.length then (impl_factorial.f k (i : Int)).bind fun f =>
      (scaledL k p.1 1 f ws.length 0 (List.replicate ws.length ⟨0, 1⟩) p.2).bind fun s' => if s'.1.length = ws.length then (sumL k (tabP ws (expA c s i)) s'.1 ws.length 0 (List.replicate ws.length ⟨0, 1⟩) (false || s'.2)).bind fun o => if o.1.length = ws.length then powersL k (D : Int) ws (tabP ws (stepA c s)) false e (i + 1) o.1 o.2 p.1 p.2 else none else none else none) hp ?_
    refine Ev.congr (fun k => if_pos (tabP_length _ _)) ?_
    refine Ev.bind (f := fun (k : Nat) (f : Int) =>
      (scaledL k (tabP ws (powA c s i)) 1 f ws.length 0 (List.replicate ws.length ⟨0, 1⟩) false).bind fun s' => if s'.1.length = ws.length then (sumL k (tabP ws (expA c s i)) s'.1 ws.length 0 (List.replicate ws.length ⟨0, 1⟩) (false || s'.2)).bind fun o => if o.1.length = ws.length then powersL k (D : Int) ws (tabP ws (stepA c s)) false e (i + 1) o.1 o.2 (tabP ws (powA c s i)) false else none else none) hf ?_
    have hsc := scaledL_ev (tabP ws (powA c s i)) 1 (fct i : Int) (fun x => timesF x (frP 1 (fct i))) (fun x hx => ?_) false ws.length 0 (by rw [tabP_length]; omega)
    · have em : (tabP ws (powA c s i)).map (fun x => timesF x (frP 1 (fct i))) = tabP ws (partA c s i) := by
        unfold tabP
        rw [List.map_map]
        refine List.map_congr_left (fun w hw => ?_)
        simp only [Function.comp, valP]
        have h1 := fct_pos w.size
        rw [frP_times _ _ _ _ h1 hfp, Int.mul_one]
        refine frP_eq _ _ _ _ (Nat.mul_le_mul h1 hfp) h1 ?_
        rw [powA_part, Int.natCast_mul]
        ac_rfl
      rw [em, List.take_zero, List.map_nil, List.nil_append] at hsc
      refine Ev.bind (f := fun (k : Nat) (s' : List S27 × Bool) => if s'.1.length = ws.length then (sumL k (tabP ws (expA c s i)) s'.1 ws.length 0 (List.replicate ws.length ⟨0, 1⟩) (false || s'.2)).bind fun o => if o.1.length = ws.length then powersL k (D : Int) ws (tabP ws (stepA c s)) false e (i + 1) o.1 o.2 (tabP ws (powA c s i)) false else none else none) hsc ?_
      refine Ev.congr (fun k => if_pos (tabP_length _ _)) ?_
      have hsm := sumL_ev (tabP ws (expA c s i)) (tabP ws (partA c s i)) (by rw [tabP_length, tabP_length]) (tabP ws (expA c s (i + 1))) (by rw [tabP_length, tabP_length]) (fun j hj => ?_) (false || false) ws.length 0 (by rw [tabP_length]; omega)
      · rw [List.take_zero, List.nil_append] at hsm
        refine Ev.bind (f := fun (k : Nat) (o : List S27 × Bool) => if o.1.length = ws.length then powersL k (D : Int) ws (tabP ws (stepA c s)) false e (i + 1) o.1 o.2 (tabP ws (powA c s i)) false else none) hsm ?_
        refine Ev.congr (fun k => if_pos (tabP_length _ _)) ?_
        exact ih
      · have hjw : j < ws.length := by rw [tabP_length] at hj; exact hj
        simp only [tabP, List.getElem_map]
        have h1 := fct_pos ws[j].size
        have h2 := fct_small ws[j].size (by have := (hok _ (List.getElem_mem hjw)).2; omega)
        have b1 := expA_small c s hs i ws[j].toList
        have b2 := partA_small c s hs i ws[j].toList
        have b3 := expA_small c s hs (i + 1) ws[j].toList
        have hpl := impl_plus_f (valP (expA c s i) ws[j]) (valP (partA c s i) ws[j]) (frP_fit _ _ h1 (by omega) (by omega)) (frP_fit _ _ h1 (by omega) (by omega))
        have ep : plusF (valP (expA c s i) ws[j]) (valP (partA c s i) ws[j]) = valP (expA c s (i + 1)) ws[j] := by
          unfold valP
          rw [frP_plus _ _ _ h1, expA_succ]
        have eo : okF2 (valP (expA c s (i + 1)) ws[j]) := frP_fit _ _ h1 (by omega) (by omega)
        rw [ep, show fitF (valP (expA c s (i + 1)) ws[j]).f0 (valP (expA c s (i + 1)) ws[j]).f1 = true from eo] at hpl
        exact hpl
    · obtain ⟨w, hw, rfl⟩ := List.mem_map.1 hx
      have h1 := fct_pos w.size
      have h2 := fct_small w.size (by have := (hok _ hw).2; omega)
      have b1 := powA_small c s hs i (by omega) w.toList
      have hm : fct w.size * fct i ≤ 14400 := Nat.mul_le_mul h2 hfs
      have hmp : 1 ≤ fct w.size * fct i := Nat.mul_le_mul h1 hfp
      have e1 : frP 1 (fct i) = ⟨1, (fct i : Int)⟩ := by
        unfold frP redF
        simp
      have ht := impl_times_f (valP (powA c s i) w) (frP 1 (fct i)) (frP_fit _ _ h1 (by omega) (by omega)) (frP_fit _ _ hfp (by decide) (by omega))
      have eo : okF2 (timesF (valP (powA c s i) w) (frP 1 (fct i))) := by
        unfold valP
        rw [frP_times _ _ _ _ h1 hfp]
        exact frP_fit _ _ hmp (by rw [Int.mul_one]; omega) (by omega)
      rw [show fitF (timesF (valP (powA c s i) w) (frP 1 (fct i))).f0 (timesF (valP (powA c s i) w) (frP 1 (fct i))).f1 = true from eo] at ht
      rw [e1] at ht ⊢
      exact ht
end
end Go.Proofs.Ytcklefgkbddlhaa.Pure
