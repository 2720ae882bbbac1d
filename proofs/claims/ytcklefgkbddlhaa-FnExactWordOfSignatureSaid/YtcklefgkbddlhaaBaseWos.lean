/- Plain lemmas: the readers of WordOfSignature, as the program makes them. -/
import Derived.Test.YtcklefgkbddlhaaBaseY
import Derived.Test.YtcklefgkbddlhaaTabW
namespace Go.Proofs.Ytcklefgkbddlhaa.Pure
open Go.RowKit Go.Proofs.Ytcklefgkbddlhaa.P Go.Proofs.Ytcklefgkbddlhaa.Tab Go.Proofs.YtcklefgkbddlhaaW.PrintWords Go.Proofs.YtcklefgkbddlhaaW.PrintLast
set_option linter.unusedVariables false
set_option linter.unusedSimpArgs false

theorem sigA_snoc (N : Nat) (q : Int) : ∀ (l : List Int) (A : List UInt8 → Int), sigA N (l ++ [q]) A = conv (sigA N l A) (expA (ltr q) (sgn q) (N + 1))
  | [], A => rfl
  | n :: l, A => sigA_snoc N q l (conv A (expA (ltr n) (sgn n) (N + 1)))
theorem sigA_bound (N : Nat) : ∀ (l : List Int) (A : List UInt8 → Int) (L : Nat), L + l.length ≤ 13 → (∀ w : List UInt8, w.length ≤ 5 → (A w).natAbs ≤ L ^ w.length) → ∀ w : List UInt8, w.length ≤ 5 → (sigA N l A w).natAbs ≤ (L + l.length) ^ w.length
  | [], A, L, _, hA, w, hw => hA w hw
  | n :: l, A, L, hL, hA, w, hw => by
    have hlL : (n :: l).length = l.length + 1 := rfl
    rw [hlL] at hL
    have := sigA_bound N l (conv A (expA (ltr n) (sgn n) (N + 1))) (L + 1) (by omega) (fun v hv => conv_bound A n N L (by omega) hA v hv (v.length + 1) (Nat.le_refl _)) w hw
    rw [hlL, show L + (l.length + 1) = L + 1 + l.length by omega]
    exact this
theorem sigA_small (N : Nat) (w : List Int) (hw : w.length ≤ 13) (v : List UInt8) (hv : v.length ≤ 5) : (sigA N w unitA v).natAbs ≤ w.length ^ v.length := by
  have := sigA_bound N w unitA 0 (by omega) (fun u _ => unitA_bound u) v hv
  rwa [Nat.zero_add] at this
/-- A word's reader. -/
def rdrOf (N : Nat) (ws : List ByteArray) (w : List Int) : List Int × (List S27 × Bool) := (w, tabP ws (sigA N w unitA), false)
/-- The words behind a word. -/
def extsOf (w : List Int) : Nat → Int → List (List Int)
  | 0, _ => []
  | e + 1, q => if outR w q = true then extsOf w e (q + 1) else (w ++ [q]) :: extsOf w e (q + 1)
theorem extsOf_len (w : List Int) : ∀ (e : Nat) (q : Int), (extsOf w e q).length ≤ e
  | 0, _ => Nat.le_refl _
  | e + 1, q => by
    have := extsOf_len w e (q + 1)
    rw [extsOf]
    split
    · omega
    · rw [List.length_cons]; omega
theorem extsOf_long (w : List Int) : ∀ (e : Nat) (q : Int), ∀ x ∈ extsOf w e q, x.length = w.length + 1
  | 0, _, x, h => by cases h
  | e + 1, q, x, h => by
    rw [extsOf] at h
    split at h
    · exact extsOf_long w e (q + 1) x h
    · rcases List.mem_cons.1 h with h | h
      · rw [h, List.length_append, List.length_singleton]
      · exact extsOf_long w e (q + 1) x h
/-- The words of the next round. -/
def nextWs (D : Nat) (W : List (List Int)) : List (List Int) := W.flatMap fun w => extsOf w (2 * D + 1) (-(D : Int))
theorem nextWs_len (D : Nat) (hD : D ≤ 3) : ∀ W : List (List Int), (nextWs D W).length ≤ 7 * W.length
  | [] => Nat.le_refl _
  | w :: W => by
    have h1 := nextWs_len D hD W
    have h2 := extsOf_len w (2 * D + 1) (-(D : Int))
    unfold nextWs at h1 ⊢
    rw [List.flatMap_cons, List.length_append, List.length_cons]
    omega
theorem nextWs_long (D : Nat) (m : Nat) (W : List (List Int)) (h : ∀ w ∈ W, w.length = m) : ∀ w ∈ nextWs D W, w.length = m + 1 := fun x hx => by
  obtain ⟨w, hw, hx⟩ := List.mem_flatMap.1 hx
  rw [extsOf_long w _ _ x hx, h w hw]
section
variable {D N : Nat} (hl : lvlOk (D : Int) (N : Int) = true)
include hl
theorem moreR_ev (w : List Int) (hw : w.length ≤ 11) : ∀ (e : Nat) (q : Int) (out : List (List Int × (List S27 × Bool))), q + e = (D : Int) + 1 → -(D : Int) ≤ q → Ev (fun k => moreR k (D : Int) N (allW D (N + 1) 0) (rdrOf N (allW D (N + 1) 0) w) e q out) (out ++ (extsOf w e q).map (rdrOf N (allW D (N + 1) 0)))
  | 0, q, out, _, _ => by
    rw [extsOf, List.map_nil, List.append_nil]
    exact Ev.congr (f := fun _ => some out) (fun k => by rw [moreR]) (Ev.now _)
  | e + 1, q, out, hq, hq0 => by
    by_cases ho : outR w q = true
    · rw [extsOf, if_pos ho]
      exact Ev.congr (fun k => by rw [moreR]; exact if_pos ho) (moreR_ev w hw e (q + 1) out (by omega) (by omega))
    · rw [extsOf, if_neg ho, List.map_cons]
      have hb := lvlOk_bounds hl
      have hn0 : q ≠ 0 := fun h => ho (by simp [outR, h])
      have hn2 : q ≤ (D : Int) := by omega
      have hnum := numbered D N hl
      have hok := allW_ok D (by omega) N
      have hinj := allW_inj D (by omega) N
      have hlen : (stepOf (D : Int) q).length + 1 ≤ (allW D (N + 1) 0).length := by
        obtain ⟨R, hR, _⟩ := allW_two D N (by omega)
        rw [hR, stepOf_length, Int.toNat_natCast]
        simp [extFrom_length]
      have hst := stepF_tab D N (by omega) (by omega) q hn0 hq0 hn2 hlen
      have hA := sigA_small N w (by omega)
      have hcv := fun (v : List UInt8) (hv : v.length ≤ 5) => conv_bound (sigA N w unitA) q N w.length (by omega) hA v hv
      have hp13 := fun (v : List UInt8) (hv : v.length ≤ 5) => pow13 (w.length + 1) (by omega) v.length hv
      have hA13 := fun (v : List UInt8) (hv : v.length ≤ 5) => Nat.le_trans (hA v hv) (pow13 w.length (by omega) v.length hv)
      have hpth : Ev (fun k => impl_pathOfWord.f k (D : Int) [q]) [stepOf (D : Int) q] := ⟨20, fun k hk => by
        have := impl_pathOfWord_l0 (D : Int) (by omega) (by omega) [q] (by simp) (fun x hx => by rw [List.mem_singleton.1 hx]; exact ⟨hn0, hq0, hn2⟩) 1 k 0 [] rfl (by omega) rfl
        unfold impl_pathOfWord.f
        simpa using this⟩
      have hpw := powersL_ev hnum (by omega) hok hinj (ltr q) (sgn q) (sgn_or q) (N + 1) 0 (by omega)
      have e0 : tabP (allW D (N + 1) 0) (expA (ltr q) (sgn q) 0) = List.replicate (allW D (N + 1) 0).length ⟨0, 1⟩ := by
        unfold tabP valP
        refine List.ext_getElem (by simp) (fun i p q => ?_)
        rw [List.getElem_map, List.getElem_replicate, expA_zero, frP_zero _ (fct_pos _)]
      rw [e0, Nat.zero_sub, powA_zero, ← unitV_tab D N (by omega), ← hst] at hpw
      have hto := timesO_ev hnum (by omega) hok hinj (sigA N w unitA) (expA (ltr q) (sgn q) (N + 1)) (fun v hv => Nat.le_trans (hA13 v hv) (by decide)) (fun v _ => Nat.le_trans (expA_small _ _ (sgn_or q) _ v) (by decide)) (fun u hu i hi => by
        have hs := (hok u hu).2
        have h5 : u.toList.length ≤ 5 := by rw [tl_length]; omega
        exact Nat.le_trans (hcv u.toList h5 i (by rw [tl_length]; exact hi)) (Nat.le_trans (hp13 u.toList h5) (by decide))) (false || false) (allW D (N + 1) 0) [] rfl
      have hrec := moreR_ev w hw e (q + 1) (out ++ [rdrOf N (allW D (N + 1) 0) (w ++ [q])]) (by omega) (by omega)
      rw [List.append_assoc, List.singleton_append] at hrec
      generalize out ++ rdrOf N (allW D (N + 1) 0) (w ++ [q]) :: (extsOf w e (q + 1)).map (rdrOf N (allW D (N + 1) 0)) = RR at hrec ⊢
      unfold rdrOf at hrec
      rw [sigA_snoc] at hrec
      refine Ev.congr (f := fun k => (impl_pathOfWord.f k (D : Int) [q]).bind fun p => if 1 ≤ p.length ∧ (rd_L9 p 0).length + 1 ≤ (allW D (N + 1) 0).length then (powersL k (D : Int) (allW D (N + 1) 0) (stepF (allW D (N + 1) 0).length (rd_L9 p 0) (rd_L9 p 0).length) false (N + 1) 0 (List.replicate (allW D (N + 1) 0).length ⟨0, 1⟩) false (unitV (allW D (N + 1) 0).length) false).bind fun x => (timesO k (D : Int) (tabP (allW D (N + 1) 0) (sigA N w unitA)) x.1 (allW D (N + 1) 0) (List.replicate (allW D (N + 1) 0).length ⟨0, 1⟩) (false || x.2)).bind fun o => if o.1.length = (allW D (N + 1) 0).length then moreR k (D : Int) N (allW D (N + 1) 0) (rdrOf N (allW D (N + 1) 0) w) e (q + 1) (out ++ [(w ++ [q], o)]) else none else none) (fun k => by rw [moreR]; exact if_neg ho) ?_
      refine Ev.bind (f := fun (k : Nat) (p : List (List Int)) => if 1 ≤ p.length ∧ (rd_L9 p 0).length + 1 ≤ (allW D (N + 1) 0).length then (powersL k (D : Int) (allW D (N + 1) 0) (stepF (allW D (N + 1) 0).length (rd_L9 p 0) (rd_L9 p 0).length) false (N + 1) 0 (List.replicate (allW D (N + 1) 0).length ⟨0, 1⟩) false (unitV (allW D (N + 1) 0).length) false).bind fun x => (timesO k (D : Int) (tabP (allW D (N + 1) 0) (sigA N w unitA)) x.1 (allW D (N + 1) 0) (List.replicate (allW D (N + 1) 0).length ⟨0, 1⟩) (false || x.2)).bind fun o => if o.1.length = (allW D (N + 1) 0).length then moreR k (D : Int) N (allW D (N + 1) 0) (rdrOf N (allW D (N + 1) 0) w) e (q + 1) (out ++ [(w ++ [q], o)]) else none else none) hpth ?_
      refine Ev.congr (f := fun k => (powersL k (D : Int) (allW D (N + 1) 0) (stepF (allW D (N + 1) 0).length (stepOf (D : Int) q) (stepOf (D : Int) q).length) false (N + 1) 0 (List.replicate (allW D (N + 1) 0).length ⟨0, 1⟩) false (unitV (allW D (N + 1) 0).length) false).bind fun x => (timesO k (D : Int) (tabP (allW D (N + 1) 0) (sigA N w unitA)) x.1 (allW D (N + 1) 0) (List.replicate (allW D (N + 1) 0).length ⟨0, 1⟩) (false || x.2)).bind fun o => if o.1.length = (allW D (N + 1) 0).length then moreR k (D : Int) N (allW D (N + 1) 0) (rdrOf N (allW D (N + 1) 0) w) e (q + 1) (out ++ [(w ++ [q], o)]) else none) (fun k => if_pos ⟨Nat.le_refl 1, hlen⟩) ?_
      refine Ev.bind (f := fun (k : Nat) (x : List S27 × Bool) => (timesO k (D : Int) (tabP (allW D (N + 1) 0) (sigA N w unitA)) x.1 (allW D (N + 1) 0) (List.replicate (allW D (N + 1) 0).length ⟨0, 1⟩) (false || x.2)).bind fun o => if o.1.length = (allW D (N + 1) 0).length then moreR k (D : Int) N (allW D (N + 1) 0) (rdrOf N (allW D (N + 1) 0) w) e (q + 1) (out ++ [(w ++ [q], o)]) else none) hpw ?_
      refine Ev.bind (f := fun (k : Nat) (o : List S27 × Bool) => if o.1.length = (allW D (N + 1) 0).length then moreR k (D : Int) N (allW D (N + 1) 0) (rdrOf N (allW D (N + 1) 0) w) e (q + 1) (out ++ [(w ++ [q], o)]) else none) hto ?_
      refine Ev.congr (fun k => if_pos (tabP_length _ _)) ?_
      exact hrec
theorem nextR_ev : ∀ (W : List (List Int)) (out : List (List Int × (List S27 × Bool))), (∀ w ∈ W, w.length ≤ 11) → Ev (fun k => nextR k (D : Int) N (allW D (N + 1) 0) (W.map (rdrOf N (allW D (N + 1) 0))) out) (out ++ (nextWs D W).map (rdrOf N (allW D (N + 1) 0)))
  | [], out, _ => by
    rw [show nextWs D [] = [] from rfl]
    simp only [List.map_nil, List.append_nil]
    exact Ev.congr (f := fun _ => some out) (fun k => by rw [nextR]) (Ev.now _)
  | w :: W, out, h => by
    have h1 := moreR_ev hl w (h w (List.mem_cons_self ..)) (2 * D + 1) (-(D : Int)) out (by omega) (Int.le_refl _)
    have h2 := nextR_ev W (out ++ (extsOf w (2 * D + 1) (-(D : Int))).map (rdrOf N (allW D (N + 1) 0))) (fun x hx => h x (List.mem_cons_of_mem _ hx))
    rw [show nextWs D (w :: W) = extsOf w (2 * D + 1) (-(D : Int)) ++ nextWs D W from List.flatMap_cons, List.map_append, ← List.append_assoc]
    refine Ev.congr (f := fun k => (moreR k (D : Int) N (allW D (N + 1) 0) (rdrOf N (allW D (N + 1) 0) w) (2 * D + 1) (-(D : Int)) out).bind fun o => nextR k (D : Int) N (allW D (N + 1) 0) (W.map (rdrOf N (allW D (N + 1) 0))) o) (fun k => by rw [List.map_cons, nextR, Int.toNat_natCast]) ?_
    exact Ev.bind (f := fun (k : Nat) (o : List (List Int × (List S27 × Bool))) => nextR k (D : Int) N (allW D (N + 1) 0) (W.map (rdrOf N (allW D (N + 1) 0))) o) h1 h2
end
end Go.Proofs.Ytcklefgkbddlhaa.Pure
