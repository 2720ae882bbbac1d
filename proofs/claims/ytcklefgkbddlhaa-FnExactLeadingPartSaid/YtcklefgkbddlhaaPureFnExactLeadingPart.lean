/- The law on LeadingPart: both programs come to the same. -/
import Derived.Test.YtcklefgkbddlhaaPx8
import Derived.Test.YtcklefgkbddlhaaPx14
import Derived.Test.YtcklefgkbddlhaaBaseSigR
import Derived.Test.YtcklefgkbddlhaaBaseDepQ
namespace Go.Proofs.Ytcklefgkbddlhaa.Pure
open Go.RowKit Go.Proofs.Ytcklefgkbddlhaa.P Go.Proofs.Ytcklefgkbddlhaa.Tab Go.Proofs.YtcklefgkbddlhaaW.PrintWords Go.Proofs.YtcklefgkbddlhaaW.PrintLast
set_option linter.unusedVariables false
set_option linter.unusedSimpArgs false

def isDep (a : Int) (t : S89) : Bool := decide (0 < a) && decide ((t.f0.size : Int) = a)
theorem chosen_l0 (d n a : Int) (l : List S89) (hl : l.length ≤ 1000) : ∀ e i (out : List S89), i + e = l.length → out.length ≤ i → Ev (fun k => impl_Series_chosen.l0 k a l (l.length : Int) (i : Int) d n out) (d, n, out ++ (l.drop i).filter (isDep a))
  | 0, i, out, h, ho => by
    rw [List.drop_of_length_le (by omega), List.filter_nil, List.append_nil]
    refine Ev.step (f := fun _ => some (d, n, out)) (fun k => ?_) (Ev.now _)
    rw [impl_Series_chosen.l0, if_neg (by omega)]
  | e + 1, i, out, h, ho => by
    have hlt : i < l.length := by omega
    rw [List.drop_eq_getElem_cons hlt, List.filter_cons]
    have hd : depB a l[i].f0 = some (isDep a l[i]) := rfl
    by_cases hb : isDep a l[i] = true
    · have ih := chosen_l0 d n a l hl e (i + 1) (out ++ [l[i]]) (by omega) (by simp; omega)
      rw [if_pos hb, List.append_cons]
      refine Ev.step (fun k => ?_) ih
      rw [impl_Series_chosen.l0, if_pos (by omega), if_pos (by omega), if_pos (by omega), rdT_nat l i hlt, hd, Option.bind_some, if_pos hb, if_pos (by omega), wrap_nat _ (by omega)]
    · have ih := chosen_l0 d n a l hl e (i + 1) out (by omega) (by omega)
      rw [if_neg hb]
      refine Ev.step (fun k => ?_) ih
      rw [impl_Series_chosen.l0, if_pos (by omega), if_pos (by omega), if_pos (by omega), rdT_nat l i hlt, hd, Option.bind_some, if_neg hb, wrap_nat _ (by omega)]
theorem part_l0 (d n a : Int) (l : List S89) (hl : l.length ≤ 1000) (ha : 0 < a) : ∀ e i (out : List S89), i + e = l.length → out.length ≤ i → Ev (fun k => spec_l01Part.l0 k a (i : Int) d n l d n out) (d, n, out ++ (l.drop i).filter (isDep a))
  | 0, i, out, h, ho => by
    rw [List.drop_of_length_le (by omega), List.filter_nil, List.append_nil]
    refine Ev.step (f := fun _ => some (d, n, out)) (fun k => ?_) (Ev.now _)
    rw [spec_l01Part.l0, if_neg (by omega)]
  | e + 1, i, out, h, ho => by
    have hlt : i < l.length := by omega
    rw [List.drop_eq_getElem_cons hlt, List.filter_cons]
    by_cases hb : (l[i].f0.size : Int) = a
    · have hb2 : isDep a l[i] = true := by unfold isDep; simp [ha, hb]
      have ih := part_l0 d n a l hl ha e (i + 1) (out ++ [l[i]]) (by omega) (by simp; omega)
      rw [if_pos hb2, List.append_cons]
      refine Ev.step (fun k => ?_) ih
      rw [spec_l01Part.l0, if_pos (by omega), if_pos (by omega), rdT_nat l i hlt, if_pos hb, if_pos (by omega), wrap_nat _ (by omega)]
    · have hb2 : ¬ isDep a l[i] = true := by unfold isDep; simp [hb]
      have ih := part_l0 d n a l hl ha e (i + 1) out (by omega) (by omega)
      rw [if_neg hb2]
      refine Ev.step (fun k => ?_) ih
      rw [spec_l01Part.l0, if_pos (by omega), if_pos (by omega), rdT_nat l i hlt, if_neg hb, wrap_nat _ (by omega)]
theorem depthT_nonneg : ∀ l : List S89, 0 ≤ depthT l
  | [] => by decide
  | t :: l => by
    rw [depthT]
    split
    · exact depthT_nonneg l
    · omega
/-- What both programs return. -/
def leadRes (d n : Int) (l : List Int) : Int × Int × List S89 × Int :=
  if isGroup d l = true ∧ lvlOk d n = true then (d, n, (sigRes d n l).2.2.1.filter (isDep (depthT (sigRes d n l).2.2.1)), 0) else (0, 0, [], 2)
theorem leadRes_small (d n : Int) (l : List Int) : (leadRes d n l).2.2.1.length ≤ 1000 := by
  unfold leadRes
  split
  · exact Nat.le_trans (List.length_filter_le _ _) (sigRes_small d n l)
  · exact Nat.zero_le _
theorem sig_words (d n : Int) (l : List Int) (h : isGroup d l = true ∧ lvlOk d n = true) : ∀ t ∈ (sigRes d n l).2.2.1, t.f0.size ≤ 1000 := by
  have hb := lvlOk_bounds h.2
  unfold sigRes
  rw [if_pos h]
  intro t ht
  dsimp only at ht
  rw [termsOf_part] at ht
  obtain ⟨j, _, h2, h3⟩ := partT_mem _ _ t _ _ ht
  rw [Nat.zero_add] at h2
  rw [h3, rdOf_nat _ j h2]
  have := (allW_ok d.toNat (by omega) n.toNat _ (List.getElem_mem h2)).2
  omega
theorem impl_lead_f (d n : Int) (l : List Int) : Ev (fun k => impl_LeadingPart.f k d n l) (leadRes d n l) := by
  have hs : Ev (fun k => impl_SignatureOfWord.f k d n l) (sigRes d n l) := impl_sig_f d n l
  refine Ev.bind (f := fun (k : Nat) (x : Int × Int × List S89 × Int) => if x.2.2.2 = 0 then (impl_DepthOfWord.f k d n l).bind fun q => (if ∀ t ∈ x.2.2.1, t.f0.size ≤ 1000 then (impl_Series_chosen.f k x.1 x.2.1 x.2.2.1 q.1).bind fun y => some (y.1, y.2.1, y.2.2, (0 : Int)) else none) else some (0, 0, [], x.2.2.2)) hs ?_
  unfold leadRes
  by_cases h : isGroup d l = true ∧ lvlOk d n = true
  · rw [if_pos h]
    have h0 : (sigRes d n l).2.2.2 = 0 := by unfold sigRes; rw [if_pos h]
    have h1 : (sigRes d n l).1 = d ∧ (sigRes d n l).2.1 = n := by unfold sigRes; rw [if_pos h]; exact ⟨rfl, rfl⟩
    have hd : Ev (fun k => impl_DepthOfWord.f k d n l) (depthT (sigRes d n l).2.2.1, 0) := by
      have := impl_depth_f d n l
      unfold depRes at this
      rw [if_pos h] at this
      exact this
    have hw := sig_words d n l h
    have hsm := sigRes_small d n l
    generalize sigRes d n l = x at h0 h1 hd hw hsm
    obtain ⟨x1, x2, x3, x4⟩ := x
    dsimp only at h0 h1 hd hw hsm ⊢
    obtain ⟨rfl, rfl⟩ := h1
    refine Ev.congr (fun k => if_pos h0) ?_
    refine Ev.bind (f := fun (k : Nat) (q : Int × Int) => (if ∀ t ∈ x3, t.f0.size ≤ 1000 then (impl_Series_chosen.f k x1 x2 x3 q.1).bind fun y => some (y.1, y.2.1, y.2.2, (0 : Int)) else none)) hd ?_
    refine Ev.congr (fun k => if_pos hw) ?_
    have := chosen_l0 x1 x2 (depthT x3) x3 hsm x3.length 0 [] (by omega) (by simp)
    rw [List.drop_zero, List.nil_append] at this
    exact Ev.bind (f := fun (_ : Nat) (y : Int × Int × List S89) => some (y.1, y.2.1, y.2.2, (0 : Int))) this (Ev.now _)
  · rw [if_neg h]
    have h0 : sigRes d n l = (0, 0, [], 2) := by unfold sigRes; rw [if_neg h]
    rw [h0]
    exact Ev.congr (fun k => if_neg (by decide)) (Ev.now _)
theorem filter_zero (l : List S89) : l.filter (isDep 0) = [] := by
  rw [List.filter_eq_nil_iff]
  intro t _
  unfold isDep
  simp
theorem spec_lead_f (d n : Int) (l : List Int) : Ev (fun k => spec_LeadingPart.f k d n l) (leadRes d n l) := by
  refine Ev.bind (f := fun (k : Nat) (t : Int) => (if t = 0 then ((spec_l09Signature.f k d n l).bind fun b => ((spec_l09Depth.f k b.1 b.2.1 b.2.2).bind fun t281 => (if t281 = 0 then ((spec_l01Empty.f b.1 b.2.1 b.2.2).bind fun c => (some (c.1, c.2.1, c.2.2, (0 : Int)))) else ((spec_l01Part.f k b.1 b.2.1 b.2.2 t281).bind fun c => (some (c.1, c.2.1, c.2.2, (0 : Int))))))) else (some (0, 0, [], t)))) (spec_code_f d n l) ?_
  unfold leadRes
  by_cases h : isGroup d l = true ∧ lvlOk d n = true
  · rw [if_pos h, if_pos h]
    refine Ev.congr (fun k => if_pos rfl) ?_
    have hb := lvlOk_bounds h.2
    obtain ⟨_, _, hm⟩ := isGroup_mem' h.1
    have hll := isGroup_length h.1
    unfold sigRes
    rw [if_pos h]
    have h2 := h.2
    obtain ⟨D, rfl⟩ : ∃ D : Nat, d = (D : Int) := ⟨d.toNat, by omega⟩
    obtain ⟨N, rfl⟩ : ∃ N : Nat, n = (N : Int) := ⟨n.toNat, by omega⟩
    simp only [Int.toNat_natCast]
    have hsm := sig_terms_small D N h2 (tabP (allW D (N + 1) 0) (sigA N l unitA))
    have hsg := signature_f h2 l hm hll
    generalize termsOf (allW D (N + 1) 0) (tabP (allW D (N + 1) 0) (sigA N l unitA)) (allW D (N + 1) 0).length = x at hsm hsg ⊢
    refine Ev.bind (f := fun (k : Nat) (b : Int × Int × List S89) => ((spec_l09Depth.f k b.1 b.2.1 b.2.2).bind fun t281 => (if t281 = 0 then ((spec_l01Empty.f b.1 b.2.1 b.2.2).bind fun c => (some (c.1, c.2.1, c.2.2, (0 : Int)))) else ((spec_l01Part.f k b.1 b.2.1 b.2.2 t281).bind fun c => (some (c.1, c.2.1, c.2.2, (0 : Int))))))) hsg ?_
    have hd := spec_depth_l0 (D : Int) (N : Int) x hsm _ 0 (Nat.zero_add _)
    rw [List.drop_zero] at hd
    refine Ev.bind (f := fun (k : Nat) (t281 : Int) => (if t281 = 0 then ((spec_l01Empty.f (D : Int) (N : Int) x).bind fun c => (some (c.1, c.2.1, c.2.2, (0 : Int)))) else ((spec_l01Part.f k (D : Int) (N : Int) x t281).bind fun c => (some (c.1, c.2.1, c.2.2, (0 : Int)))))) hd ?_
    have hnn := depthT_nonneg x
    by_cases hz : depthT x = 0
    · refine Ev.congr (fun k => if_pos hz) ?_
      rw [hz, filter_zero]
      exact Ev.now _
    · refine Ev.congr (fun k => if_neg hz) ?_
      have := part_l0 (D : Int) (N : Int) (depthT x) x hsm (by omega) x.length 0 [] (by omega) (by simp)
      rw [List.drop_zero, List.nil_append] at this
      exact Ev.bind (f := fun (_ : Nat) (c : Int × Int × List S89) => some (c.1, c.2.1, c.2.2, (0 : Int))) this (Ev.now _)
  · rw [if_neg h, if_neg h]
    exact Ev.congr (fun k => if_neg (by decide)) (Ev.now _)
end Go.Proofs.Ytcklefgkbddlhaa.Pure
