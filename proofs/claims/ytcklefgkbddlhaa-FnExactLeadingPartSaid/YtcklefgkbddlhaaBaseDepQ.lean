/- Plain lemmas: the depth of a signature, as both programs look for it. -/
import Derived.Test.YtcklefgkbddlhaaPx14
import Derived.Test.YtcklefgkbddlhaaPx4
import Derived.Test.YtcklefgkbddlhaaBaseSigR
namespace Go.Proofs.Ytcklefgkbddlhaa.Pure
open Go.RowKit Go.Proofs.Ytcklefgkbddlhaa.P Go.Proofs.Ytcklefgkbddlhaa.Tab Go.Proofs.YtcklefgkbddlhaaW.PrintWords Go.Proofs.YtcklefgkbddlhaaW.PrintLast
set_option linter.unusedVariables false
set_option linter.unusedSimpArgs false

/-- The length of the first word that is not empty. -/
def depthT : List S89 → Int
  | [] => 0
  | t :: l => if t.f0.size = 0 then depthT l else (t.f0.size : Int)
theorem rdT_nat (l : List S89) (i : Nat) (h : i < l.length) : rd_T89 l (i : Int) = l[i] := by simp [rd_T89, List.getD_eq_getElem?_getD, h]
theorem impl_depth_l0 (l : List S89) (hl : l.length ≤ 1000) : ∀ e i, i + e = l.length → Ev (fun k => impl_DepthOfWord.l0 k l (l.length : Int) (i : Int)) (depthT (l.drop i), 0)
  | 0, i, h => by
    rw [List.drop_of_length_le (by omega)]
    refine Ev.step (f := fun _ => some (0, 0)) (fun k => ?_) (Ev.now _)
    rw [impl_DepthOfWord.l0, if_neg (by omega)]
  | e + 1, i, h => by
    have hlt : i < l.length := by omega
    have ih := impl_depth_l0 l hl e (i + 1) (by omega)
    rw [List.drop_eq_getElem_cons hlt, depthT]
    by_cases hz : l[i].f0.size = 0
    · rw [if_pos hz]
      refine Ev.step (fun k => ?_) ih
      rw [impl_DepthOfWord.l0, if_pos (by omega), if_pos (by omega), if_pos (by omega), rdT_nat l i hlt, if_pos (List.eq_nil_of_length_eq_zero (by rw [tl_length]; exact hz)), wrap_nat _ (by omega)]
    · rw [if_neg hz]
      refine Ev.step (f := fun _ => some ((l[i].f0.size : Int), 0)) (fun k => ?_) (Ev.now _)
      rw [impl_DepthOfWord.l0, if_pos (by omega), if_pos (by omega), if_pos (by omega), rdT_nat l i hlt, if_neg (fun e => hz (by rw [← tl_length, e]; rfl))]
theorem spec_depth_l0 (d n : Int) (l : List S89) (hl : l.length ≤ 1000) : ∀ e i, i + e = l.length → Ev (fun k => spec_l09Depth.l0 k (i : Int) d n l) (depthT (l.drop i))
  | 0, i, h => by
    rw [List.drop_of_length_le (by omega)]
    refine Ev.step (f := fun _ => some 0) (fun k => ?_) (Ev.now _)
    rw [spec_l09Depth.l0, if_neg (by omega)]
  | e + 1, i, h => by
    have hlt : i < l.length := by omega
    have ih := spec_depth_l0 d n l hl e (i + 1) (by omega)
    rw [List.drop_eq_getElem_cons hlt, depthT]
    by_cases hz : l[i].f0.size = 0
    · rw [if_pos hz]
      refine Ev.step (fun k => ?_) ih
      rw [spec_l09Depth.l0, if_pos (by omega), if_pos (by omega), rdT_nat l i hlt, if_neg (by omega), wrap_nat _ (by omega)]
    · rw [if_neg hz]
      refine Ev.step (f := fun _ => some (l[i].f0.size : Int)) (fun k => ?_) (Ev.now _)
      rw [spec_l09Depth.l0, if_pos (by omega), if_pos (by omega), rdT_nat l i hlt, if_pos (by omega)]
def depRes (d n : Int) (l : List Int) : Int × Int := if isGroup d l = true ∧ lvlOk d n = true then (depthT (sigRes d n l).2.2.1, 0) else (0, 2)
theorem impl_depth_f (d n : Int) (l : List Int) : Ev (fun k => impl_DepthOfWord.f k d n l) (depRes d n l) := by
  have hs : Ev (fun k => impl_SignatureOfWord.f k d n l) (sigRes d n l) := impl_sig_f d n l
  refine Ev.bind (f := fun (k : Nat) (b : Int × Int × List S89 × Int) => if b.2.2.2 = 0 then impl_DepthOfWord.l0 k b.2.2.1 (b.2.2.1.length : Int) 0 else some (0, b.2.2.2)) hs ?_
  unfold depRes
  by_cases h : isGroup d l = true ∧ lvlOk d n = true
  · rw [if_pos h]
    have hb := lvlOk_bounds h.2
    have hsm : (sigRes d n l).2.2.1.length ≤ 1000 := by
      unfold sigRes
      rw [if_pos h]
      exact sig_terms_small d.toNat n.toNat (by rw [show ((d.toNat : Nat) : Int) = d by omega, show ((n.toNat : Nat) : Int) = n by omega]; exact h.2) _
    have h0 : (sigRes d n l).2.2.2 = 0 := by unfold sigRes; rw [if_pos h]
    rw [h0]
    refine Ev.congr (fun k => if_pos rfl) ?_
    have := impl_depth_l0 (sigRes d n l).2.2.1 hsm _ 0 (Nat.zero_add _)
    rw [List.drop_zero] at this
    exact this
  · rw [if_neg h]
    have h0 : (sigRes d n l).2.2.2 = 2 := by unfold sigRes; rw [if_neg h]
    rw [h0]
    exact Ev.congr (fun k => if_neg (by decide)) (Ev.now _)
end Go.Proofs.Ytcklefgkbddlhaa.Pure
