/- The law on WordOfSignature: both programs come to the same. -/
import Derived.Test.YtcklefgkbddlhaaPx9
import Derived.Test.YtcklefgkbddlhaaPx14
import Derived.Test.YtcklefgkbddlhaaBaseWos
import Derived.Test.YtcklefgkbddlhaaBaseY
import Derived.Test.YtcklefgkbddlhaaBaseX
namespace Go.Proofs.Ytcklefgkbddlhaa.Pure
open Go.RowKit Go.Proofs.Ytcklefgkbddlhaa.P Go.Proofs.Ytcklefgkbddlhaa.Tab Go.Proofs.YtcklefgkbddlhaaW.PrintWords Go.Proofs.YtcklefgkbddlhaaW.PrintLast
set_option linter.unusedVariables false
set_option linter.unusedSimpArgs false

/-- Two terms are the same. -/
def eqTm (a b : S89) : Bool := ((a.f0.toList) == (b.f0.toList) && ((a.f1.f0 == b.f1.f0) && (a.f1.f1 == b.f1.f1)))
def sameFrom (x y : List S89) : Nat → Nat → Bool
 | 0, _ => true
 | m + 1, i => eqTm (rd_T89 x (i : Int)) (rd_T89 y (i : Int)) && sameFrom x y m (i + 1)
def sameTs (x y : List S89) : Bool := decide (x.length = y.length) && sameFrom x y x.length 0
section
variable (x y : List S89) (hx : x.length ≤ 1048576) (hxy : x.length = y.length)
include hx hxy
theorem spec_same (a b c d : Int) : ∀ m i, i + m = x.length → Ev (fun k => spec_l09Same.l0 k (i : Int) a b x c d y) (sameFrom x y m i)
 | 0, i, hi => by
  refine Ev.step (f := fun _ => some true) (fun k => ?_) (Ev.now _)
  rw [spec_l09Same.l0, if_neg (by omega)]
 | m + 1, i, hi => by
  rw [sameFrom]
  have e : (!((((rd_T89 x (i : Int)).f0).toList) == (((rd_T89 y (i : Int)).f0).toList)) || ((!(((rd_T89 x (i : Int)).f1.f0) == ((rd_T89 y (i : Int)).f1.f0)) || (!(((rd_T89 x (i : Int)).f1.f1) == ((rd_T89 y (i : Int)).f1.f1)))))) = !(eqTm (rd_T89 x (i : Int)) (rd_T89 y (i : Int))) := by
   unfold eqTm
   rw [Bool.not_and, Bool.not_and]
  cases hb : eqTm (rd_T89 x (i : Int)) (rd_T89 y (i : Int)) with
  | true =>
   rw [Bool.true_and]
   refine Ev.step (fun k => ?_) (spec_same a b c d m (i + 1) (by omega))
   rw [spec_l09Same.l0, if_pos (by omega), if_pos (by omega), if_pos (by omega), e, hb, if_neg (by simp), wrap_nat _ (by omega)]
  | false =>
   rw [Bool.false_and]
   refine Ev.step (f := fun _ => some false) (fun k => ?_) (Ev.now _)
   rw [spec_l09Same.l0, if_pos (by omega), if_pos (by omega), if_pos (by omega), e, hb, if_pos (by simp)]
theorem impl_same : ∀ m i, i + m = x.length → Ev (fun k => impl_Term.l0 k x y (x.length : Int) (i : Int)) (sameFrom x y m i)
 | 0, i, hi => by
  refine Ev.step (f := fun _ => some true) (fun k => ?_) (Ev.now _)
  rw [impl_Term.l0, if_neg (by omega)]
 | m + 1, i, hi => by
  rw [sameFrom]
  have e : (!((((rd_T89 x (i : Int)).f0).toList) == (((rd_T89 y (i : Int)).f0).toList)) || ((!(((rd_T89 x (i : Int)).f1.f0) == ((rd_T89 y (i : Int)).f1.f0)) || (!(((rd_T89 x (i : Int)).f1.f1) == ((rd_T89 y (i : Int)).f1.f1)))))) = !(eqTm (rd_T89 x (i : Int)) (rd_T89 y (i : Int))) := by
   unfold eqTm
   rw [Bool.not_and, Bool.not_and]
  cases hb : eqTm (rd_T89 x (i : Int)) (rd_T89 y (i : Int)) with
  | true =>
   rw [Bool.true_and]
   refine Ev.step (fun k => ?_) (impl_same m (i + 1) (by omega))
   rw [impl_Term.l0, if_pos (by omega), if_pos (by omega), if_pos (by omega), if_pos (by omega), e, hb, if_neg (by simp), wrap_nat _ (by omega)]
  | false =>
   rw [Bool.false_and]
   refine Ev.step (f := fun _ => some false) (fun k => ?_) (Ev.now _)
   rw [impl_Term.l0, if_pos (by omega), if_pos (by omega), if_pos (by omega), if_pos (by omega), e, hb, if_pos (by simp)]
end
theorem spec_same_f (x y : List S89) (hx : x.length ≤ 1048576) (a b c d : Int) : Ev (fun k => spec_l09Same.f k a b x c d y) (sameTs x y) := by
 unfold sameTs
 by_cases hlen : x.length = y.length
 ·rw [decide_eq_true hlen, Bool.true_and]
  refine Ev.congr (fun k => ?_) (spec_same x y hx hlen a b c d x.length 0 (by omega))
  unfold spec_l09Same.f
  rw [if_pos (by omega)]
  rfl
 ·rw [decide_eq_false hlen, Bool.false_and]
  refine Ev.congr (f := fun _ => some false) (fun k => ?_) (Ev.now _)
  unfold spec_l09Same.f
  rw [if_neg (by omega)]
theorem impl_same_f (x y : List S89) (hx : x.length ≤ 1048576) (a b : Int) : Ev (fun k => impl_equalSeries.f k a b x a b y) (sameTs x y) := by
 unfold sameTs
 by_cases hlen : x.length = y.length
 ·rw [decide_eq_true hlen, Bool.true_and]
  refine Ev.congr (f := fun k => (impl_Term.l0 k x y (x.length : Int) ((0 : Nat) : Int)).bind fun t => some t) (fun k => ?_) (Ev.bind (f := fun _ t => some t) (impl_same x y hx hlen x.length 0 (by omega)) (Ev.now _))
  unfold impl_equalSeries.f impl_areAlike.f impl_Term.f
  rw [if_pos rfl, Option.bind_some, if_pos (by simp), if_pos (by omega)]
  rfl
 ·rw [decide_eq_false hlen, Bool.false_and]
  refine Ev.congr (f := fun _ => some false) (fun k => ?_) (Ev.now _)
  unfold impl_equalSeries.f impl_areAlike.f impl_Term.f
  rw [if_pos rfl, Option.bind_some, if_pos (by simp), if_neg (by omega)]
  rfl
/-- The series of a word. -/
def serOfW (D N : Nat) (w : List Int) : List S89 := termsOf (allW D (N + 1) 0) (tabP (allW D (N + 1) 0) (sigA N w unitA)) (allW D (N + 1) 0).length
def findW (D N : Nat) (l : List S89) : List (List Int) → Option (List Int)
 | [] => none
 | w :: W => if sameTs (serOfW D N w) l = true then some w else findW D N l W
def resW (D N : Nat) (l : List S89) : Nat → List (List Int) → List Int × Int
 | 0, W => match findW D N l W with | some w => (w, 0) | none => ([], 4)
 | e + 1, W => match findW D N l W with | some w => (w, 0) | none => resW D N l e (nextWs D W)
section
variable {D N : Nat} (hl : lvlOk (D : Int) (N : Int) = true) (l : List S89)
include hl
theorem ser_small (w : List Int) : (serOfW D N w).length ≤ 1048576 := by
 have := termsOf_length (allW D (N + 1) 0) (tabP (allW D (N + 1) 0) (sigA N w unitA)) (allW D (N + 1) 0).length
 have := (allW_length D N hl).2
 unfold serOfW
 omega
theorem findR_ev : ∀ W : List (List Int), Ev (fun k => findR k (D : Int) (N : Int) (allW D (N + 1) 0) l (W.map (rdrOf N (allW D (N + 1) 0)))) (findW D N l W)
 | [] => Ev.congr (f := fun _ => some none) (fun k => by rw [List.map_nil, findR]) (Ev.now _)
 | w :: W => by
  refine Ev.congr (f := fun k => (impl_equalSeries.f k (D : Int) (N : Int) (serOfW D N w) (D : Int) (N : Int) l).bind fun b => if b = true then some (some w) else findR k (D : Int) (N : Int) (allW D (N + 1) 0) l (W.map (rdrOf N (allW D (N + 1) 0)))) (fun k => by rw [List.map_cons, findR]; rfl) ?_
  refine Ev.bind (f := fun (k : Nat) (b : Bool) => if b = true then some (some w) else findR k (D : Int) (N : Int) (allW D (N + 1) 0) l (W.map (rdrOf N (allW D (N + 1) 0)))) (impl_same_f (serOfW D N w) l (ser_small hl w) (D : Int) (N : Int)) ?_
  rw [findW]
  by_cases hb : sameTs (serOfW D N w) l = true
  ·rw [if_pos hb]
   exact Ev.congr (fun k => if_pos hb) (Ev.now _)
  ·rw [if_neg hb]
   exact Ev.congr (fun k => if_neg hb) (findR_ev W)
theorem roundsR_ev : ∀ (e : Nat) (W : List (List Int)) (m : Nat), m + e = N → (∀ w ∈ W, w.length = m) → W.length ≤ 7 ^ m → Ev (fun k => roundsR k (D : Int) N (allW D (N + 1) 0) l e (W.map (rdrOf N (allW D (N + 1) 0)))) (resW D N l e W)
 | 0, W, m, hm, hw, hW => by
  refine Ev.congr (f := fun k => (findR k (D : Int) (N : Int) (allW D (N + 1) 0) l (W.map (rdrOf N (allW D (N + 1) 0)))).bind fun o => match o with | some w => some (w, (0 : Int)) | none => some ([], 4)) (fun k => by rw [roundsR]; rfl) ?_
  refine Ev.bind (f := fun (k : Nat) (o : Option (List Int)) => match o with | some w => some (w, (0 : Int)) | none => some ([], 4)) (findR_ev hl l W) ?_
  rw [resW]
  cases findW D N l W with
  | some w => exact Ev.now _
  | none => exact Ev.now _
 | e + 1, W, m, hm, hw, hW => by
  have hb := lvlOk_bounds hl
  refine Ev.congr (f := fun k => (findR k (D : Int) (N : Int) (allW D (N + 1) 0) l (W.map (rdrOf N (allW D (N + 1) 0)))).bind fun o => match o with | some w => some (w, (0 : Int)) | none => (nextR k (D : Int) N (allW D (N + 1) 0) (W.map (rdrOf N (allW D (N + 1) 0))) []).bind fun rs' => if rs'.length ≤ 100000 then roundsR k (D : Int) N (allW D (N + 1) 0) l e rs' else none) (fun k => by rw [roundsR]; rfl) ?_
  refine Ev.bind (f := fun (k : Nat) (o : Option (List Int)) => match o with | some w => some (w, (0 : Int)) | none => (nextR k (D : Int) N (allW D (N + 1) 0) (W.map (rdrOf N (allW D (N + 1) 0))) []).bind fun rs' => if rs'.length ≤ 100000 then roundsR k (D : Int) N (allW D (N + 1) 0) l e rs' else none) (findR_ev hl l W) ?_
  rw [resW]
  cases findW D N l W with
  | some w => exact Ev.now _
  | none =>
   have h1 := nextR_ev hl W [] (fun w h => by rw [hw w h]; omega)
   rw [List.nil_append] at h1
   have h7 : (7 : Nat) ^ (m + 1) ≤ 7 ^ 5 := Nat.pow_le_pow_right (by decide) (by omega)
   have hs : (7 : Nat) ^ (m + 1) = 7 * 7 ^ m := by rw [Nat.pow_succ, Nat.mul_comm]
   have h8 := nextWs_len D (by omega) W
   have h9 : (nextWs D W).length ≤ 7 ^ (m + 1) := by rw [hs]; exact Nat.le_trans h8 (Nat.mul_le_mul_left 7 hW)
   refine Ev.bind (f := fun (k : Nat) (rs' : List (List Int × (List S27 × Bool))) => if rs'.length ≤ 100000 then roundsR k (D : Int) N (allW D (N + 1) 0) l e rs' else none) h1 ?_
   refine Ev.congr (fun k => if_pos (by rw [List.length_map]; exact Nat.le_trans h9 (Nat.le_trans h7 (by decide)))) ?_
   exact roundsR_ev e (nextWs D W) (m + 1) (by omega) (nextWs_long D m W hw) h9
/-- A series as the reference keeps it. -/
def serS (D N : Nat) (w : List Int) : S32 := ⟨(D : Int), (N : Int), serOfW D N w⟩
omit hl in
theorem rdW (W : List (List Int)) (i : Nat) (h : i < W.length) : rd_L9 W (i : Int) = W[i] := by simp [rd_L9, List.getD_eq_getElem?_getD, h]
omit hl in
theorem rdS (W : List (List Int)) (i : Nat) (h : i < W.length) : rd_T32 (W.map (serS D N)) (i : Int) = serS D N W[i] := by simp [rd_T32, List.getD_eq_getElem?_getD, h]
theorem spec_find (W : List (List Int)) (hWb : W.length ≤ 16807) (m : Nat) {R : List Int × Int} (h : Ev (fun k => if (m : Int) = (N : Int) then (some (([] : List Int), (4 : Int))) else (spec_WordOfSignature.l2 k W (W.map (serS D N)) (m : Int) (([] : List (List Int))) (([] : List (S32))) 0 (D : Int) (N : Int) l)) R) :
 ∀ (rest pre : List (List Int)), pre ++ rest = W → Ev (fun k => spec_WordOfSignature.l1 k W (W.map (serS D N)) (m : Int) (pre.length : Int) (D : Int) (N : Int) l) (match findW D N l rest with | some w => (w, 0) | none => R)
 | [], pre, hp => by
  rw [List.append_nil] at hp
  refine Ev.step (fun k => ?_) h
  rw [spec_WordOfSignature.l1, if_neg (by rw [hp]; omega)]
 | w :: rest, pre, hp => by
  have hlen : pre.length < W.length := by rw [← hp]; simp
  have hget : W[pre.length] = w := by simp [← hp]
  have hrec := spec_find W hWb m h rest (pre ++ [w]) (by rw [List.append_assoc]; exact hp)
  rw [List.length_append, List.length_singleton] at hrec
  refine Ev.step (f := fun k => (spec_l09Same.f k (D : Int) (N : Int) (serOfW D N w) (D : Int) (N : Int) l).bind fun t => if t = true then (some (w, 0)) else spec_WordOfSignature.l1 k W (W.map (serS D N)) (m : Int) ((pre.length + 1 : Nat) : Int) (D : Int) (N : Int) l) (fun k => ?_) ?_
  ·rw [spec_WordOfSignature.l1, if_pos (by omega), if_pos (by omega), if_pos (by rw [List.length_map]; omega), rdS W pre.length hlen, rdW W pre.length hlen, hget, wrap_nat _ (by omega)]
   rfl
  ·refine Ev.bind (f := fun (k : Nat) (t : Bool) => if t = true then (some (w, (0 : Int))) else spec_WordOfSignature.l1 k W (W.map (serS D N)) (m : Int) ((pre.length + 1 : Nat) : Int) (D : Int) (N : Int) l) (spec_same_f (serOfW D N w) l (ser_small hl w) (D : Int) (N : Int) (D : Int) (N : Int)) ?_
   rw [findW]
   by_cases hb : sameTs (serOfW D N w) l = true
   ·rw [if_pos hb]
    exact Ev.congr (fun k => if_pos hb) (Ev.now _)
   ·rw [if_neg hb]
    exact Ev.congr (fun k => if_neg hb) hrec
theorem spec_more (W : List (List Int)) (hWb : W.length ≤ 16807) (m : Nat) (i : Nat) (hi : i < W.length) (hlw : W[i].length ≤ 11) {R : List Int × Int} :
 ∀ (e : Nat) (q : Int) (nx : List (List Int)) (sx : List S32), q + e = (D : Int) + 1 → -(D : Int) ≤ q → nx.length + e ≤ 1000000 → sx.length + e ≤ 1000000 → Ev (fun k => spec_WordOfSignature.l2 k W (W.map (serS D N)) (m : Int) (nx ++ extsOf W[i] e q) (sx ++ (extsOf W[i] e q).map (serS D N)) ((i + 1 : Nat) : Int) (D : Int) (N : Int) l) R →
  Ev (fun k => spec_WordOfSignature.l3 k W (W.map (serS D N)) (m : Int) nx sx (i : Int) q (D : Int) (N : Int) l) R
 | 0, q, nx, sx, hq, _, _, _, h => by
  rw [extsOf, List.map_nil, List.append_nil, List.append_nil] at h
  refine Ev.step (fun k => ?_) h
  rw [spec_WordOfSignature.l3, if_neg (by omega), wrap_nat _ (by omega)]
 | e + 1, q, nx, sx, hq, hq0, hn, hs, h => by
  have hb := lvlOk_bounds hl
  have h4 : Ev (fun k => spec_WordOfSignature.j4 k W (W.map (serS D N)) (m : Int) nx sx (i : Int) q (outR W[i] q) (D : Int) (N : Int) l) R := by
   have hwq : wrap64 (q + 1) = q + 1 := wrap_of _ (by omega) (by omega)
   cases ho : outR W[i] q with
   | true =>
    rw [extsOf, if_pos ho] at h
    refine Ev.step (fun k => ?_) (spec_more W hWb m i hi hlw e (q + 1) nx sx (by omega) (by omega) (by omega) (by omega) h)
    rw [spec_WordOfSignature.j4, if_pos rfl, hwq]
   | false =>
    rw [extsOf, if_neg (by rw [ho]; simp), List.map_cons] at h
    have hn0 : q ≠ 0 := fun h0 => by simp [outR, h0] at ho
    have hrec := spec_more W hWb m i hi hlw e (q + 1) (nx ++ [W[i] ++ [q]]) (sx ++ [serS D N (W[i] ++ [q])]) (by omega) (by omega) (by rw [List.length_append, List.length_singleton]; omega) (by rw [List.length_append, List.length_singleton]; omega) (by rw [List.append_assoc, List.append_assoc]; exact h)
    have hok := allW_ok D (by omega) N
    have hA := sigA_small N W[i] (by omega)
    have hA13 := fun (v : List UInt8) (hv : v.length ≤ 5) => Nat.le_trans (hA v hv) (pow13 W[i].length (by omega) v.length hv)
    have hcv := fun (v : List UInt8) (hv : v.length ≤ 5) => conv_bound (sigA N W[i] unitA) q N W[i].length (by omega) hA v hv
    have hp13 := fun (v : List UInt8) (hv : v.length ≤ 5) => pow13 (W[i].length + 1) (by omega) v.length hv
    have hst := step_f hl hA13 (n := q) ⟨hn0, hq0, by omega⟩ (fun u hu i hi => by
     have hs := (hok u hu).2
     have h5 : u.toList.length ≤ 5 := by rw [tl_length]; omega
     exact Nat.le_trans (hcv u.toList h5 i (by rw [tl_length]; exact hi)) (Nat.le_trans (hp13 u.toList h5) (by decide)))
    rw [← sigA_snoc] at hst
    refine Ev.step (f := fun k => (spec_l09Step.f k (D : Int) (N : Int) (termsOf (allW D (N + 1) 0) (tabP (allW D (N + 1) 0) (sigA N W[i] unitA)) (allW D (N + 1) 0).length) q).bind fun (b : Int × Int × List S89) => spec_WordOfSignature.l3 k W (W.map (serS D N)) (m : Int) (nx ++ [W[i] ++ [q]]) (sx ++ [(⟨b.1, b.2.1, b.2.2⟩ : S32)]) (i : Int) (q + 1) (D : Int) (N : Int) l) (fun k => ?_) ?_
    ·have hown : spec_l01Own.f W[i] = some W[i] := by
      unfold spec_l01Own.f
      rw [Option.bind_some, if_pos (by rw [List.length_nil]; omega), List.nil_append]
     rw [spec_WordOfSignature.j4, if_neg (by simp), if_pos (by omega), if_pos (by omega), rdW W i hi, hown, Option.bind_some, if_pos (by omega), if_pos (by omega), if_pos (by rw [List.length_map]; omega), rdS W i hi, hwq]
     congr 1
     funext b
     rw [if_pos (by omega)]
    ·exact Ev.bind (f := fun (k : Nat) (b : Int × Int × List S89) => spec_WordOfSignature.l3 k W (W.map (serS D N)) (m : Int) (nx ++ [W[i] ++ [q]]) (sx ++ [(⟨b.1, b.2.1, b.2.2⟩ : S32)]) (i : Int) (q + 1) (D : Int) (N : Int) l) hst hrec
  refine Ev.step (fun k => ?_) h4
  have hnq : wrap64 (-q) = -q := wrap_of _ (by omega) (by omega)
  rw [spec_WordOfSignature.l3, if_pos (by omega), if_pos (by omega), if_pos (by omega), rdW W i hi]
  by_cases h0 : q = 0
  ·rw [if_pos h0]
   simp [outR, h0]
  ·rw [if_neg h0]
   by_cases hz : 0 < W[i].length
   ·have hwl : wrap64 ((W[i].length : Int) - 1) = (W[i].length : Int) - 1 := wrap_of _ (by omega) (by omega)
    rw [if_pos (by omega), hwl, if_pos (by omega), if_pos (by omega), hnq]
    congr 1
    simp only [outR, decide_eq_false h0, decide_eq_true hz, Bool.false_or, Bool.true_and]
    exact Bool.eq_iff_iff.2 (by simp)
   ·rw [if_neg (by omega)]
    simp [outR, h0, hz]
theorem spec_next (W : List (List Int)) (hWb : W.length ≤ 16807) (m : Nat) (hlw : ∀ w ∈ W, w.length ≤ 11) {R : List Int × Int} (h : Ev (fun k => spec_WordOfSignature.l0 k (nextWs D W) ((nextWs D W).map (serS D N)) ((m + 1 : Nat) : Int) (D : Int) (N : Int) l) R) (hm : m ≤ 100) :
 ∀ (rest pre : List (List Int)), pre ++ rest = W → Ev (fun k => spec_WordOfSignature.l2 k W (W.map (serS D N)) (m : Int) (nextWs D pre) ((nextWs D pre).map (serS D N)) (pre.length : Int) (D : Int) (N : Int) l) R
 | [], pre, hp => by
  rw [List.append_nil] at hp
  subst hp
  refine Ev.step (fun k => ?_) h
  rw [spec_WordOfSignature.l2, if_neg (by omega), wrap_nat _ (by omega)]
 | w :: rest, pre, hp => by
  have hb := lvlOk_bounds hl
  have hlen : pre.length < W.length := by rw [← hp]; simp
  have hget : W[pre.length] = w := by simp [← hp]
  have hrec := spec_next W hWb m hlw h hm rest (pre ++ [w]) (by rw [List.append_assoc]; exact hp)
  have e1 : nextWs D (pre ++ [w]) = nextWs D pre ++ extsOf w (2 * D + 1) (-(D : Int)) := by simp [nextWs]
  rw [List.length_append, List.length_singleton, e1, List.map_append, ← hget] at hrec
  have h7 := nextWs_len D (by omega) pre
  have h3 := spec_more hl l W hWb m pre.length hlen (hlw _ (List.getElem_mem hlen)) (2 * D + 1) (-(D : Int)) (nextWs D pre) ((nextWs D pre).map (serS D N)) (by omega) (Int.le_refl _) (by omega) (by rw [List.length_map]; omega) hrec
  refine Ev.step (fun k => ?_) h3
  rw [spec_WordOfSignature.l2, if_pos (by omega), wrap_of (-(D : Int)) (by omega) (by omega)]
theorem spec_rounds : ∀ (e : Nat) (W : List (List Int)) (m : Nat), m + e = N → (∀ w ∈ W, w.length = m) → W.length ≤ 7 ^ m → Ev (fun k => spec_WordOfSignature.l0 k W (W.map (serS D N)) (m : Int) (D : Int) (N : Int) l) (resW D N l e W)
 | 0, W, m, hm, hw, hW => by
  have hb := lvlOk_bounds hl
  have h7 : (7 : Nat) ^ m ≤ 7 ^ 5 := Nat.pow_le_pow_right (by decide) (by omega)
  have h := spec_find hl l W (Nat.le_trans hW (Nat.le_trans h7 (by decide))) m (R := ([], 4)) (Ev.congr (fun k => if_pos (by omega)) (Ev.now _)) W [] rfl
  refine Ev.step (fun k => ?_) (Ev.congr (f := fun k => spec_WordOfSignature.l1 k W (W.map (serS D N)) (m : Int) 0 (D : Int) (N : Int) l) (fun k => rfl) ?_)
  ·rw [spec_WordOfSignature.l0]
  ·rw [resW]
   exact h
 | e + 1, W, m, hm, hw, hW => by
  have hb := lvlOk_bounds hl
  have h7 : (7 : Nat) ^ m ≤ 7 ^ 5 := Nat.pow_le_pow_right (by decide) (by omega)
  have hs : (7 : Nat) ^ (m + 1) = 7 * 7 ^ m := by rw [Nat.pow_succ, Nat.mul_comm]
  have h8 := nextWs_len D (by omega) W
  have h9 : (nextWs D W).length ≤ 7 ^ (m + 1) := by rw [hs]; exact Nat.le_trans h8 (Nat.mul_le_mul_left 7 hW)
  have hWb : W.length ≤ 16807 := Nat.le_trans hW (Nat.le_trans h7 (by decide))
  have hrec := spec_rounds e (nextWs D W) (m + 1) (by omega) (nextWs_long D m W hw) h9
  have hn := spec_next hl l W hWb m (fun w h => by rw [hw w h]; omega) hrec (by omega) W [] rfl
  have h := spec_find hl l W hWb m (R := resW D N l e (nextWs D W)) (Ev.congr (fun k => if_neg (by omega)) hn) W [] rfl
  refine Ev.step (fun k => ?_) (Ev.congr (f := fun k => spec_WordOfSignature.l1 k W (W.map (serS D N)) (m : Int) 0 (D : Int) (N : Int) l) (fun k => rfl) ?_)
  ·rw [spec_WordOfSignature.l0]
  ·rw [resW]
   exact h
end
/-- What both programs return. -/
def wosRes (d n : Int) (l : List S89) : List Int × Int := if serOk d n l = true then resW d.toNat n.toNat l n.toNat [[]] else ([], 1)
theorem impl_wos_f (d n : Int) (l : List S89) (hS : Small l) : Ev (fun k => WordOfSignature_f k d n l) (wosRes d n l) := by
 unfold wosRes
 refine Ev.bind (f := fun (k : Nat) (b1 : Bool) => if b1 = true then (impl_allWords.f k d n).bind fun ws => if 0 ≤ d ∧ d ≤ 3 ∧ 0 ≤ n ∧ 1 ≤ ws.length ∧ ws.length ≤ 1000 ∧ n.toNat ≤ 1000 ∧ ∀ x ∈ ws, x.size ≤ 1000 then roundsR k d n.toNat ws l n.toNat [([], unitV ws.length, false)] else none else some ([], 1)) (impl_isSeries_f d n l hS) ?_
 cases h1 : serOk d n l with
 | false => exact Ev.congr (fun k => if_neg (by simp)) (Ev.now _)
 | true =>
  rw [if_pos rfl]
  refine Ev.congr (fun k => if_pos rfl) ?_
  have h2 : lvlOk d n = true := by
   unfold serOk at h1
   exact (Bool.and_eq_true _ _ ▸ h1).1
  have hb := lvlOk_bounds h2
  obtain ⟨D, rfl⟩ : ∃ D : Nat, d = (D : Int) := ⟨d.toNat, by omega⟩
  obtain ⟨N, rfl⟩ : ∃ N : Nat, n = (N : Int) := ⟨n.toNat, by omega⟩
  simp only [Int.toNat_natCast]
  have hw := allW_length D N h2
  have hok := allW_ok D (by omega) N
  have ha : Ev (fun k => impl_allWords.f k (D : Int) (N : Int)) (allW D (N + 1) 0) := ⟨30000, fun k hk => impl_allWords_f k D N (by omega) (by omega) hk⟩
  refine Ev.bind (f := fun (k : Nat) (ws : List ByteArray) => if 0 ≤ (D : Int) ∧ (D : Int) ≤ 3 ∧ 0 ≤ (N : Int) ∧ 1 ≤ ws.length ∧ ws.length ≤ 1000 ∧ N ≤ 1000 ∧ ∀ x ∈ ws, x.size ≤ 1000 then roundsR k (D : Int) N ws l N [([], unitV ws.length, false)] else none) ha ?_
  refine Ev.congr (fun k => if_pos ⟨by omega, by omega, by omega, hw.1, hw.2, by omega, fun x hx => by have := (hok x hx).2; omega⟩) ?_
  have h := roundsR_ev h2 l N [[]] 0 (by omega) (fun w hw => by rw [List.mem_singleton.1 hw]; rfl) (by decide)
  rw [List.map_cons, List.map_nil, rdrOf, sigA, ← unitV_tab D N (by omega)] at h
  exact h
theorem spec_wos_f (d n : Int) (l : List S89) (hS : Small l) : Ev (fun k => spec_WordOfSignature.f k d n l) (wosRes d n l) := by
 unfold wosRes
 refine Ev.bind (f := fun (k : Nat) (t : Bool) => (if t = true then ((spec_l01One.f d n (⟨#[]⟩ : ByteArray)).bind fun (b : Int × Int × List S89) => (spec_WordOfSignature.l0 k (([(([] : List Int))] : List (List Int))) (([(⟨b.1, b.2.1, b.2.2⟩ : S32)] : List (S32))) 0 d n l)) else (some (([] : List Int), (1 : Int))))) (spec_is_f d n l hS) ?_
 cases h1 : serOk d n l with
 | false => exact Ev.congr (fun k => if_neg (by simp)) (Ev.now _)
 | true =>
  rw [if_pos rfl]
  refine Ev.congr (fun k => if_pos rfl) ?_
  have h2 : lvlOk d n = true := by
   unfold serOk at h1
   exact (Bool.and_eq_true _ _ ▸ h1).1
  have hb := lvlOk_bounds h2
  obtain ⟨D, rfl⟩ : ∃ D : Nat, d = (D : Int) := ⟨d.toNat, by omega⟩
  obtain ⟨N, rfl⟩ : ∃ N : Nat, n = (N : Int) := ⟨n.toNat, by omega⟩
  simp only [Int.toNat_natCast]
  have h := spec_rounds h2 l N [[]] 0 (by omega) (fun w hw => by rw [List.mem_singleton.1 hw]; rfl) (by decide)
  rw [List.map_cons, List.map_nil, serS, serOfW, sigA, unit_terms h2] at h
  exact h
theorem resW_small {D N : Nat} (l : List S89) : ∀ (e : Nat) (W : List (List Int)) (m : Nat), (∀ w ∈ W, w.length = m) → (resW D N l e W).1.length ≤ m + e
 | 0, W, m, hw => by
  rw [resW]
  cases h : findW D N l W with
  | none => exact Nat.zero_le _
  | some w => exact Nat.le_of_eq (findW_mem h hw)
 | e + 1, W, m, hw => by
  rw [resW]
  cases h : findW D N l W with
  | none =>
   have := resW_small (D := D) (N := N) l e (nextWs D W) (m + 1) (nextWs_long D m W hw)
   dsimp only
   omega
  | some w =>
   have : w.length = m := findW_mem h hw
   dsimp only
   omega
where
 findW_mem {D N : Nat} {l : List S89} {m : Nat} {w : List Int} : ∀ {W : List (List Int)}, findW D N l W = some w → (∀ w ∈ W, w.length = m) → w.length = m
 | [], h, _ => by cases h
 | v :: W, h, hw => by
  rw [findW] at h
  split at h
  ·obtain rfl := Option.some.inj h
   exact hw _ (List.mem_cons_self ..)
  ·exact findW_mem h (fun x hx => hw x (List.mem_cons_of_mem _ hx))
theorem wosRes_small (d n : Int) (l : List S89) : (wosRes d n l).1.length ≤ 1000 := by
 unfold wosRes
 cases h1 : serOk d n l with
 | false => exact Nat.zero_le _
 | true =>
  rw [if_pos rfl]
  have h2 : lvlOk d n = true := by
   unfold serOk at h1
   exact (Bool.and_eq_true _ _ ▸ h1).1
  have hb := lvlOk_bounds h2
  have := resW_small (D := d.toNat) (N := n.toNat) l n.toNat [[]] 0 (fun w hw => by rw [List.mem_singleton.1 hw]; rfl)
  omega
end Go.Proofs.Ytcklefgkbddlhaa.Pure
