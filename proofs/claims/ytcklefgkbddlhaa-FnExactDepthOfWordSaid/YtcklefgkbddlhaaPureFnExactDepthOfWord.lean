/- The law on DepthOfWord: both programs come to the same. -/
import Derived.Test.YtcklefgkbddlhaaPx11
import Derived.Test.YtcklefgkbddlhaaBaseCopies
import Derived.Test.YtcklefgkbddlhaaBaseSigS
namespace Go.Proofs.Ytcklefgkbddlhaa.Pure
open Go.RowKit Go.Proofs.Ytcklefgkbddlhaa.P Go.Proofs.Ytcklefgkbddlhaa.Tab Go.Proofs.YtcklefgkbddlhaaW.PrintWords Go.Proofs.YtcklefgkbddlhaaW.PrintLast
set_option linter.unusedVariables false
set_option linter.unusedSimpArgs false

/-- The length of the first word that is not empty. -/
def depthT : List S89 → Int
  | [] => 0
  | t :: l => if t.f0.size = 0 then depthT l else (t.f0.size : Int)
theorem rdT_nat (l : List S89) (i : Nat) (h : i < l.length) : rd_T89 l (i : Int) = l[i] := by simp [rd_T89, List.getD_eq_getElem?_getD, h]
theorem impl_depth_l0 (l : List S89) (hl : l.length ≤ 1000) : ∀ e i, i + e = l.length → Ev (fun k => impl_DepthOfWord.l0 k l (l.length : Int) (i : Int)) (depthT (l.drop i), 0)
  | 0, i, h => by
    rw [List.drop_of_length_le (by omega)]
    refine Ev.step (f := fun _ => some (0, 0)) (fun k => ?_) (Ev.now _)
    rw [impl_DepthOfWord.l0, if_neg (by omega)]
  | e + 1, i, h => by
    have hlt : i < l.length := by omega
    have ih := impl_depth_l0 l hl e (i + 1) (by omega)
    rw [List.drop_eq_getElem_cons hlt, depthT]
    by_cases hz : l[i].f0.size = 0
    · rw [if_pos hz]
      refine Ev.step (fun k => ?_) ih
      rw [impl_DepthOfWord.l0, if_pos (by omega), if_pos (by omega), if_pos (by omega), rdT_nat l i hlt, if_pos (List.eq_nil_of_length_eq_zero (by rw [tl_length]; exact hz)), wrap_nat _ (by omega)]
    · rw [if_neg hz]
      refine Ev.step (f := fun _ => some ((l[i].f0.size : Int), 0)) (fun k => ?_) (Ev.now _)
      rw [impl_DepthOfWord.l0, if_pos (by omega), if_pos (by omega), if_pos (by omega), rdT_nat l i hlt, if_neg (fun e => hz (by rw [← tl_length, e]; rfl))]
theorem spec_depth_l0 (d n : Int) (l : List S89) (hl : l.length ≤ 1000) : ∀ e i, i + e = l.length → Ev (fun k => spec_l09Depth.l0 k (i : Int) d n l) (depthT (l.drop i))
  | 0, i, h => by
    rw [List.drop_of_length_le (by omega)]
    refine Ev.step (f := fun _ => some 0) (fun k => ?_) (Ev.now _)
    rw [spec_l09Depth.l0, if_neg (by omega)]
  | e + 1, i, h => by
    have hlt : i < l.length := by omega
    have ih := spec_depth_l0 d n l hl e (i + 1) (by omega)
    rw [List.drop_eq_getElem_cons hlt, depthT]
    by_cases hz : l[i].f0.size = 0
    · rw [if_pos hz]
      refine Ev.step (fun k => ?_) ih
      rw [spec_l09Depth.l0, if_pos (by omega), if_pos (by omega), rdT_nat l i hlt, if_neg (by omega), wrap_nat _ (by omega)]
    · rw [if_neg hz]
      refine Ev.step (f := fun _ => some (l[i].f0.size : Int)) (fun k => ?_) (Ev.now _)
      rw [spec_l09Depth.l0, if_pos (by omega), if_pos (by omega), rdT_nat l i hlt, if_pos (by omega)]
theorem spec_code_f (d n : Int) (l : List Int) : Ev (fun k => spec_l09Code.f k d n l) (if isGroup d l = true ∧ lvlOk d n = true then 0 else 2) := by
  have hg : Ev (fun k => spec_l09Is.f k d l) (isGroup d l) := ⟨20, fun k hk => spec_l09Is_f k d l hk⟩
  refine Ev.congr (f := fun k => if lvlOk d n = true then (spec_l09Is.f k d l).bind fun b => (if b = true then some (0 : Int) else some 2) else some 2) (fun k => by unfold spec_l09Code.f; rw [spec_sizes_f, Option.bind_some]) ?_
  cases h2 : lvlOk d n with
  | false =>
    rw [if_neg (by simp)]
    exact Ev.congr (fun k => if_neg (by simp)) (Ev.now _)
  | true =>
    refine Ev.congr (fun k => if_pos rfl) ?_
    refine Ev.bind (f := fun (_ : Nat) (b : Bool) => if b = true then some (0 : Int) else some 2) hg ?_
    cases h1 : isGroup d l with
    | false => rw [if_neg (by simp), if_neg (by simp)]; exact Ev.now _
    | true => rw [if_pos rfl, if_pos ⟨rfl, rfl⟩]; exact Ev.now _
theorem sig_terms_small (D N : Nat) (hl : lvlOk (D : Int) (N : Int) = true) (vs : List S27) : (termsOf (allW D (N + 1) 0) vs (allW D (N + 1) 0).length).length ≤ 1000 := by
  rw [termsOf_part]
  exact Nat.le_trans (partT_length _ _ _ _) (allW_length D N hl).2
def depRes (d n : Int) (l : List Int) : Int × Int := if isGroup d l = true ∧ lvlOk d n = true then (depthT (sigRes d n l).2.2.1, 0) else (0, 2)
theorem impl_depth_f (d n : Int) (l : List Int) : Ev (fun k => impl_DepthOfWord.f k d n l) (depRes d n l) := by
  have hs : Ev (fun k => impl_SignatureOfWord.f k d n l) (sigRes d n l) := impl_sig_f d n l
  refine Ev.bind (f := fun (k : Nat) (b : Int × Int × List S89 × Int) => if b.2.2.2 = 0 then impl_DepthOfWord.l0 k b.2.2.1 (b.2.2.1.length : Int) 0 else some (0, b.2.2.2)) hs ?_
  unfold depRes
  by_cases h : isGroup d l = true ∧ lvlOk d n = true
  · rw [if_pos h]
    have hb := lvlOk_bounds h.2
    have hsm : (sigRes d n l).2.2.1.length ≤ 1000 := by
      unfold sigRes
      rw [if_pos h]
      exact sig_terms_small d.toNat n.toNat (by rw [show ((d.toNat : Nat) : Int) = d by omega, show ((n.toNat : Nat) : Int) = n by omega]; exact h.2) _
    have h0 : (sigRes d n l).2.2.2 = 0 := by unfold sigRes; rw [if_pos h]
    rw [h0]
    refine Ev.congr (fun k => if_pos rfl) ?_
    have := impl_depth_l0 (sigRes d n l).2.2.1 hsm _ 0 (Nat.zero_add _)
    rw [List.drop_zero] at this
    exact this
  · rw [if_neg h]
    have h0 : (sigRes d n l).2.2.2 = 2 := by unfold sigRes; rw [if_neg h]
    rw [h0]
    exact Ev.congr (fun k => if_neg (by decide)) (Ev.now _)
theorem spec_depth_f (d n : Int) (l : List Int) : Ev (fun k => spec_DepthOfWord.f k d n l) (depRes d n l) := by
  refine Ev.bind (f := fun (k : Nat) (t : Int) => (if t = 0 then ((spec_l09Signature.f k d n l).bind fun b => ((spec_l09Depth.f k b.1 b.2.1 b.2.2).bind fun t234 => (some (t234, 0)))) else (some (0, t)))) (spec_code_f d n l) ?_
  unfold depRes
  by_cases h : isGroup d l = true ∧ lvlOk d n = true
  · rw [if_pos h, if_pos h]
    refine Ev.congr (fun k => if_pos rfl) ?_
    have hb := lvlOk_bounds h.2
    obtain ⟨_, _, hm⟩ := isGroup_mem' h.1
    have hll := isGroup_length h.1
    unfold sigRes
    rw [if_pos h]
    have h2 := h.2
    obtain ⟨D, rfl⟩ : ∃ D : Nat, d = (D : Int) := ⟨d.toNat, by omega⟩
    obtain ⟨N, rfl⟩ : ∃ N : Nat, n = (N : Int) := ⟨n.toNat, by omega⟩
    simp only [Int.toNat_natCast]
    have hsm := sig_terms_small D N h2 (tabP (allW D (N + 1) 0) (sigA N l unitA))
    refine Ev.bind (f := fun (k : Nat) (b : Int × Int × List S89) => (spec_l09Depth.f k b.1 b.2.1 b.2.2).bind fun t234 => some (t234, 0)) (signature_f h2 l hm hll) ?_
    have := spec_depth_l0 (D : Int) (N : Int) _ hsm _ 0 (Nat.zero_add _)
    rw [List.drop_zero] at this
    exact Ev.bind (f := fun (_ : Nat) (t : Int) => some (t, (0 : Int))) this (Ev.now _)
  · rw [if_neg h, if_neg h]
    exact Ev.congr (fun k => if_neg (by decide)) (Ev.now _)
theorem FnExactDepthOfWord : laws_FnExactDepthOfWord.Pure := by
  intro d n l _ _ _ _ _
  by_cases hbig : (l.length : Int) > 1048576
  · exact ⟨0, if_pos hbig⟩
  obtain ⟨K0, H0⟩ := impl_depth_f d n l
  obtain ⟨K1, H1⟩ := spec_depth_f d n l
  obtain ⟨k, hk0, hk1, hk2⟩ : ∃ k : Nat, K0 ≤ k + 1 ∧ K1 ≤ k + 1 ∧ 5000000 ≤ k := ⟨max (max K0 K1) 5000000, by omega, by omega, by omega⟩
  have I := H0 (k + 1) hk0
  have S := H1 (k + 1) hk1
  dsimp only at I S
  have T1 := toInt64S_f (k + 1) l (by omega) (by omega)
  have T0 := toInt64S_f k l (by omega) (by omega)
  have E0 := eqInt64S_f k l (by omega) (by omega)
  refine ⟨k + 1, ?_⟩
  unfold laws_FnExactDepthOfWord.f
  rw [if_neg hbig, T1, Option.bind_some, S, Option.bind_some, Option.bind_some, I, Option.bind_some, if_pos rfl, bne_self_eq_false, laws_FnExactDepthOfWord.j0, if_neg (by simp), T0, Option.bind_some, E0, Option.bind_some, if_pos rfl]
end Go.Proofs.Ytcklefgkbddlhaa.Pure
