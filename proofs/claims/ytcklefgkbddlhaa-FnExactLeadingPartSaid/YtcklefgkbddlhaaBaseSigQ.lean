/- Plain lemmas: the table of a step, and the signature of a group word, as the program reckons them. -/
import Derived.Test.YtcklefgkbddlhaaBaseSigP
namespace Go.Proofs.Ytcklefgkbddlhaa.Pure
open Go.RowKit Go.Proofs.Ytcklefgkbddlhaa.P Go.Proofs.Ytcklefgkbddlhaa.Tab Go.Proofs.YtcklefgkbddlhaaW.PrintWords Go.Proofs.YtcklefgkbddlhaaW.PrintLast
set_option linter.unusedVariables false
set_option linter.unusedSimpArgs false

theorem stepF_list (m : Nat) (l : List Int) (hm : l.length + 1 ≤ m) : ∀ i, i ≤ l.length → stepF m l i = (⟨0, 1⟩ :: (l.take i).map (fun x => (⟨x, 1⟩ : S27))) ++ List.replicate (m - 1 - i) ⟨0, 1⟩
  | 0, _ => by
    rw [stepF, List.take_zero, List.map_nil, Nat.sub_zero]
    conv => lhs; rw [show m = (m - 1) + 1 by omega, List.replicate_succ]
    rfl
  | i + 1, h => by
    have hlt : i < l.length := by omega
    have e : m - 1 - i = (m - 1 - (i + 1)) + 1 := by omega
    rw [stepF, stepF_list m l hm i (by omega), e, List.replicate_succ, set_mid _ _ _ _ (1 + i) (by simp; omega), take_snoc l i hlt, List.map_append, rd_nat l i hlt]
    simp
theorem allW_two (D N : Nat) (hN : 1 ≤ N) : ∃ R, allW D (N + 1) 0 = (⟨#[]⟩ : ByteArray) :: (extFrom ⟨#[]⟩ D 0 ++ R) ∧ ∀ w ∈ R, 2 ≤ w.size := by
  obtain ⟨M, rfl⟩ : ∃ M, N = M + 1 := ⟨N - 1, by omega⟩
  refine ⟨allW D M 2, ?_, fun w hw => ?_⟩
  · rw [allW, allW]
    simp [wordsN, nextW]
  · obtain ⟨q, h1, _, h2⟩ := allW_mem D w M 2 hw
    rw [wordsN_size D q w h2]
    exact h1
theorem stepA_zero (c : UInt8) (s : Int) (w : List UInt8) (h : w.length ≠ 1) : stepA c s w = 0 := by
  unfold stepA
  rw [if_neg (fun e => h (by rw [e]; rfl))]
theorem byte_eq (a b : Nat) (ha : a < 256) (hb : b < 256) : UInt8.ofNat a = UInt8.ofNat b ↔ a = b := by
  refine ⟨fun h => ?_, fun h => by rw [h]⟩
  have := congrArg UInt8.toNat h
  rw [UInt8.toNat_ofNat', UInt8.toNat_ofNat'] at this
  omega
theorem stepOf_get (D : Nat) (n : Int) (hn : n ≠ 0) (h1 : -(D : Int) ≤ n) (h2 : n ≤ D) (i : Nat) (hi : i < D) : (stepOf (D : Int) n)[i]? = some (if i + 1 = n.natAbs then sgn n else 0) := by
  unfold stepOf mx sgn
  rw [Int.toNat_natCast, List.getElem?_set]
  by_cases h : i + 1 = n.natAbs
  · have e : ((if n < -n then -n else n) - 1).toNat = i := by split <;> omega
    rw [if_pos e, if_pos (by rw [List.length_replicate, e]; exact hi), if_pos h]
  · have e : ¬ ((if n < -n then -n else n) - 1).toNat = i := by split <;> omega
    rw [if_neg e, if_neg h]
    simp [hi]
theorem stepF_tab (D N : Nat) (hN : 1 ≤ N) (hD : D ≤ 3) (n : Int) (hn : n ≠ 0) (h1 : -(D : Int) ≤ n) (h2 : n ≤ D) (hlen : (stepOf (D : Int) n).length + 1 ≤ (allW D (N + 1) 0).length) :
    stepF (allW D (N + 1) 0).length (stepOf (D : Int) n) (stepOf (D : Int) n).length = tabP (allW D (N + 1) 0) (stepA (ltr n) (sgn n)) := by
  have hl : (stepOf (D : Int) n).length = D := by rw [stepOf_length, Int.toNat_natCast]
  rw [stepF_list _ _ hlen _ (Nat.le_refl _), List.take_length]
  obtain ⟨R, hR, hR2⟩ := allW_two D N hN
  rw [hR]
  unfold tabP
  rw [List.map_cons, List.map_append, List.cons_append]
  congr 1
  · unfold valP
    have e0 : (⟨#[]⟩ : ByteArray).toList = [] := by simp [ByteArray.toList_eq]
    rw [e0, stepA_zero _ _ _ (by decide), frP_zero _ (fct_pos _)]
  congr 1
  · refine List.ext_getElem? (fun i => ?_)
    rw [List.getElem?_map, List.getElem?_map]
    by_cases hi : i < D
    · rw [stepOf_get D n hn h1 h2 i hi, extFrom_get _ D 0 i hi, Option.map_some, Option.map_some]
      congr 1
      unfold valP stepA ltr
      have e0 : ((⟨#[]⟩ : ByteArray) ++ wbyte (0 + i)).toList = [UInt8.ofNat (48 + i)] := by
        rw [app_toList, tl_wbyte, Nat.zero_add]
        simp [ByteArray.toList_eq]
      have e1 : fct ((⟨#[]⟩ : ByteArray) ++ wbyte (0 + i)).size = 1 := by
        rw [size_app, wbyte_size]; rfl
      rw [e0, e1, frP_one]
      congr 1
      by_cases h : i + 1 = n.natAbs
      · rw [if_pos h, if_pos (by rw [← h]; congr 2; omega)]
      · rw [if_neg h, if_neg (fun e => h ?_)]
        have := (byte_eq _ _ (by omega) (by omega)).1 (List.cons.inj e).1
        omega
    · rw [List.getElem?_eq_none (by omega), List.getElem?_eq_none (by rw [extFrom_length]; omega)]
      rfl
  · have e : (⟨#[]⟩ :: (extFrom ⟨#[]⟩ D 0 ++ R) : List ByteArray).length - 1 - (stepOf (D : Int) n).length = R.length := by
      simp [extFrom_length, hl]
    rw [e]
    refine List.ext_getElem (by simp) (fun i p q => ?_)
    rw [List.getElem_replicate, List.getElem_map]
    unfold valP
    have := hR2 _ (List.getElem_mem (by simpa using q))
    rw [stepA_zero _ _ _ (by rw [tl_length]; omega), frP_zero _ (fct_pos _)]
theorem allW_inj (D : Nat) (hD : D ≤ 3) (N : Nat) : ∀ (i j : Nat) (v : ByteArray), (allW D (N + 1) 0)[i]? = some v → (allW D (N + 1) 0)[j]? = some v → i = j := fun i j v hi hj => by
  obtain ⟨h1, e1⟩ := List.getElem?_eq_some_iff.1 hi
  obtain ⟨h2, e2⟩ := List.getElem?_eq_some_iff.1 hj
  have hlt := List.pairwise_iff_getElem.1 (allW_asc D hD (N + 1) 0)
  rcases Nat.lt_trichotomy i j with h | h | h
  · have := hlt i j h1 h2 h
    rw [e1, e2, bef_irr] at this; cases this
  · exact h
  · have := hlt j i h2 h1 h
    rw [e1, e2, bef_irr] at this; cases this
theorem allW_ok (D : Nat) (hD : D ≤ 3) (N : Nat) : ∀ w ∈ allW D (N + 1) 0, okW D w ∧ w.size ≤ N := fun w hw => by
  obtain ⟨q, _, h1, h2⟩ := allW_mem D w (N + 1) 0 hw
  refine ⟨wordsN_ok D hD q w h2, ?_⟩
  rw [wordsN_size D q w h2]
  omega
theorem unitV_tab (D N : Nat) (hN : 1 ≤ N) : unitV (allW D (N + 1) 0).length = tabP (allW D (N + 1) 0) unitA := by
  obtain ⟨R, hR, hR2⟩ := allW_two D N hN
  rw [hR]
  generalize hQ : extFrom ⟨#[]⟩ D 0 ++ R = Q
  have hq : ∀ w ∈ Q, 1 ≤ w.size := fun w hw => by
    rw [← hQ] at hw
    rcases List.mem_append.1 hw with h | h
    · rw [extFrom_size _ w D 0 h]; exact Nat.le_add_left _ _
    · exact Nat.le_trans (by decide) (hR2 w h)
  unfold unitV tabP
  rw [List.length_cons, List.replicate_succ, List.set_cons_zero, List.map_cons]
  congr 1
  · unfold valP unitA
    have e0 : (⟨#[]⟩ : ByteArray).toList = [] := by simp [ByteArray.toList_eq]
    rw [e0, if_pos rfl]
    exact (frP_one 1).symm
  · refine List.ext_getElem (by simp) (fun i p q => ?_)
    rw [List.getElem_replicate, List.getElem_map]
    have := hq _ (List.getElem_mem (by simpa using q))
    unfold valP unitA
    rw [if_neg (fun e => by have := congrArg List.length e; rw [tl_length, List.length_nil] at this; omega), frP_zero _ (fct_pos _)]
theorem unitA_bound (w : List UInt8) : (unitA w).natAbs ≤ 0 ^ w.length := by
  unfold unitA
  split
  · rename_i h; rw [h]; decide
  · exact Nat.zero_le _
theorem sigL_ev (D N : Nat) (hl : lvlOk (D : Int) (N : Int) = true) : ∀ (l : List Int) (A : List UInt8 → Int) (L : Nat), (∀ x ∈ l, x ≠ 0 ∧ -(D : Int) ≤ x ∧ x ≤ D) → L + l.length ≤ 12 → (∀ w : List UInt8, w.length ≤ 5 → (A w).natAbs ≤ L ^ w.length) →
    Ev (fun k => sigL k (D : Int) N (allW D (N + 1) 0) (l.map (stepOf (D : Int))) (tabP (allW D (N + 1) 0) A) false) (tabP (allW D (N + 1) 0) (sigA N l A), false)
  | [], A, L, _, _, _ => Ev.now _
  | n :: l, A, L, hm, hL, hA => by
    have hb := lvlOk_bounds hl
    have hn := hm n (List.mem_cons_self ..)
    have hnum := numbered D N hl
    have hok := allW_ok D (by omega) N
    have hinj := allW_inj D (by omega) N
    have hlen : (stepOf (D : Int) n).length + 1 ≤ (allW D (N + 1) 0).length := by
      obtain ⟨R, hR, _⟩ := allW_two D N (by omega)
      rw [hR, stepOf_length, Int.toNat_natCast]
      simp [extFrom_length]
    have hst := stepF_tab D N (by omega) (by omega) n hn.1 hn.2.1 hn.2.2 hlen
    have hlL : (n :: l).length = l.length + 1 := rfl
    have hcv := fun (w : List UInt8) (hw : w.length ≤ 5) => conv_bound A n N L (by omega) hA w hw
    have hp13 := fun (w : List UInt8) (hw : w.length ≤ 5) => pow13 (L + 1) (by omega) w.length hw
    have hA13 := fun (w : List UInt8) (hw : w.length ≤ 5) => Nat.le_trans (hA w hw) (pow13 L (by omega) w.length hw)
    refine Ev.congr (fun k => if_pos hlen) ?_
    rw [hst]
    have hpw := powersL_ev hnum (by omega) hok hinj (ltr n) (sgn n) (sgn_or n) (N + 1) 0 (by omega)
    have e0 : tabP (allW D (N + 1) 0) (expA (ltr n) (sgn n) 0) = List.replicate (allW D (N + 1) 0).length ⟨0, 1⟩ := by
      unfold tabP valP
      refine List.ext_getElem (by simp) (fun i p q => ?_)
      rw [List.getElem_map, List.getElem_replicate, expA_zero, frP_zero _ (fct_pos _)]
    rw [e0, Nat.zero_sub, powA_zero, ← unitV_tab D N (by omega)] at hpw
    refine Ev.bind (f := fun (k : Nat) (e : List S27 × Bool) => (timesO k (D : Int) (tabP (allW D (N + 1) 0) A) e.1 (allW D (N + 1) 0) (List.replicate (allW D (N + 1) 0).length ⟨0, 1⟩) (false || e.2)).bind fun o => sigL k (D : Int) N (allW D (N + 1) 0) (l.map (stepOf (D : Int))) o.1 o.2) hpw ?_
    have hto := timesO_ev hnum (by omega) hok hinj A (expA (ltr n) (sgn n) (N + 1)) (fun v hv => Nat.le_trans (hA13 v hv) (by decide)) (fun v _ => Nat.le_trans (expA_small _ _ (sgn_or n) _ v) (by decide)) (fun w hw i hi => by
      have hs := (hok w hw).2
      have h5 : w.toList.length ≤ 5 := by rw [tl_length]; omega
      exact Nat.le_trans (hcv w.toList h5 i (by rw [tl_length]; exact hi)) (Nat.le_trans (hp13 w.toList h5) (by decide))) (false || false) (allW D (N + 1) 0) [] rfl
    refine Ev.bind (f := fun (k : Nat) (o : List S27 × Bool) => sigL k (D : Int) N (allW D (N + 1) 0) (l.map (stepOf (D : Int))) o.1 o.2) hto ?_
    exact sigL_ev D N hl l (conv A (expA (ltr n) (sgn n) (N + 1))) (L + 1) (fun x hx => hm x (List.mem_cons_of_mem _ hx)) (by omega) (fun w hw => hcv w hw (w.length + 1) (Nat.le_refl _))
/-- What the program returns. -/
def sigRes (d n : Int) (l : List Int) : Int × Int × List S89 × Int :=
  if isGroup d l = true ∧ lvlOk d n = true then (d, n, termsOf (allW d.toNat (n.toNat + 1) 0) (tabP (allW d.toNat (n.toNat + 1) 0) (sigA n.toNat l unitA)) (allW d.toNat (n.toNat + 1) 0).length, 0) else (0, 0, [], 2)
theorem impl_sig_f (d n : Int) (l : List Int) : Ev (fun k => SignatureOfWord_f k d n l) (sigRes d n l) := by
  unfold sigRes
  cases h1 : isGroup d l with
  | false =>
    rw [if_neg (by simp)]
    refine Ev.congr (f := fun _ => some (0, 0, [], 2)) (fun k => ?_) (Ev.now _)
    unfold SignatureOfWord_f
    rw [impl_IsGroupWord_f, h1, Option.bind_some, if_neg (by simp)]
  | true =>
    cases h2 : lvlOk d n with
    | false =>
      rw [if_neg (by simp)]
      refine Ev.congr (f := fun _ => some (0, 0, [], 2)) (fun k => ?_) (Ev.now _)
      unfold SignatureOfWord_f
      rw [impl_IsGroupWord_f, h1, Option.bind_some, if_pos rfl, impl_isLevel_f, h2, Option.bind_some, if_neg (by simp)]
    | true =>
      rw [if_pos ⟨rfl, rfl⟩]
      have hb := lvlOk_bounds h2
      obtain ⟨_, _, hm⟩ := isGroup_mem' h1
      have hll := isGroup_length h1
      obtain ⟨D, rfl⟩ : ∃ D : Nat, d = (D : Int) := ⟨d.toNat, by omega⟩
      obtain ⟨N, rfl⟩ : ∃ N : Nat, n = (N : Int) := ⟨n.toNat, by omega⟩
      simp only [Int.toNat_natCast]
      have hw := allW_length D N h2
      have ha : Ev (fun k => impl_allWords.f k (D : Int) (N : Int)) (allW D (N + 1) 0) := ⟨30000, fun k hk => impl_allWords_f k D N (by omega) (by omega) hk⟩
      have hpth : Ev (fun k => impl_pathOfWord.f k (D : Int) l) (l.map (stepOf (D : Int))) := ⟨20, fun k hk => impl_pathOfWord_f k D l h1 hk⟩
      have hok := allW_ok D (by omega) N
      have hsg := sigL_ev D N h2 l unitA 0 hm (by omega) (fun w _ => unitA_bound w)
      rw [← unitV_tab D N (by omega)] at hsg
      have hg : 0 ≤ (N : Int) ∧ 1 ≤ (allW D (N + 1) 0).length ∧ (allW D (N + 1) 0).length ≤ 1000 ∧ N ≤ 1000 ∧ ∀ x ∈ allW D (N + 1) 0, x.size ≤ 1000 := ⟨by omega, hw.1, hw.2, by omega, fun x hx => by have := (hok x hx).2; omega⟩
      refine Ev.congr (f := fun k => (impl_pathOfWord.f k (D : Int) l).bind fun p => (impl_allWords.f k (D : Int) (N : Int)).bind fun ws => if 0 ≤ (N : Int) ∧ 1 ≤ ws.length ∧ ws.length ≤ 1000 ∧ N ≤ 1000 ∧ ∀ x ∈ ws, x.size ≤ 1000 then (sigL k (D : Int) N ws p (unitV ws.length) false).bind fun r => if r.1.length = ws.length then some (toldOf (D : Int) (N : Int) ws r.1 r.2) else none else none) (fun k => ?_) ?_
      · unfold SignatureOfWord_f
        rw [impl_IsGroupWord_f, h1, Option.bind_some, if_pos rfl, impl_isLevel_f, h2, Option.bind_some, if_pos rfl]
        rfl
      · refine Ev.bind (f := fun (k : Nat) (p : List (List Int)) => (impl_allWords.f k (D : Int) (N : Int)).bind fun ws => if 0 ≤ (N : Int) ∧ 1 ≤ ws.length ∧ ws.length ≤ 1000 ∧ N ≤ 1000 ∧ ∀ x ∈ ws, x.size ≤ 1000 then (sigL k (D : Int) N ws p (unitV ws.length) false).bind fun r => if r.1.length = ws.length then some (toldOf (D : Int) (N : Int) ws r.1 r.2) else none else none) hpth ?_
        refine Ev.bind (f := fun (k : Nat) (ws : List ByteArray) => if 0 ≤ (N : Int) ∧ 1 ≤ ws.length ∧ ws.length ≤ 1000 ∧ N ≤ 1000 ∧ ∀ x ∈ ws, x.size ≤ 1000 then (sigL k (D : Int) N ws (l.map (stepOf (D : Int))) (unitV ws.length) false).bind fun r => if r.1.length = ws.length then some (toldOf (D : Int) (N : Int) ws r.1 r.2) else none else none) ha ?_
        refine Ev.congr (fun k => if_pos hg) ?_
        refine Ev.bind (f := fun (_ : Nat) (r : List S27 × Bool) => if r.1.length = (allW D (N + 1) 0).length then some (toldOf (D : Int) (N : Int) (allW D (N + 1) 0) r.1 r.2) else none) hsg ?_
        refine Ev.congr (fun k => if_pos (tabP_length _ _)) ?_
        exact Ev.now _
end Go.Proofs.Ytcklefgkbddlhaa.Pure
