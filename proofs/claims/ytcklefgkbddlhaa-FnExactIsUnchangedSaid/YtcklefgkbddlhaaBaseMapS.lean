/- Plain lemmas: what a map makes of a series, as the reference reckons it. -/
import Derived.Test.YtcklefgkbddlhaaBaseMapL
namespace Go.Proofs.Ytcklefgkbddlhaa.Pure
open Go.RowKit Go.Proofs.Ytcklefgkbddlhaa.P Go.Proofs.Ytcklefgkbddlhaa.Tab Go.Proofs.YtcklefgkbddlhaaW.PrintWords Go.Proofs.YtcklefgkbddlhaaW.PrintLast
set_option linter.unusedVariables false
set_option linter.unusedSimpArgs false

theorem addV_true (vs : List S27) (n : Nat) (x : S27) : addV vs n x.f0 x.f1 true = vs.set n x := by simp [addV, sel]
theorem selF_true (m : S27) : selF (m, true) = m := by simp [selF, sel]
theorem wordsP_nil (rows : List (List Int)) (ws : List ByteArray) (t : S89) (vs : List S27) (bad : Bool) : wordsP rows ws t [] vs bad = (vs, bad) := rfl
theorem wordsP_cons (rows : List (List Int)) (ws : List ByteArray) (t : S89) (v : ByteArray) (l : List ByteArray) (vs : List S27) (bad : Bool) : wordsP rows ws t (v :: l) vs bad = wordsP rows ws t l (wordP rows ws t v vs bad).1 (wordP rows ws t v vs bad).2 := rfl
theorem termsP_cons (rows : List (List Int)) (e : Nat) (ws : List ByteArray) (t : S89) (l : List S89) (vs : List S27) (bad : Bool) : termsP rows e ws (t :: l) vs bad = termsP rows e ws l (wordsP rows ws t (wordsN e t.f0.size) vs bad).1 (wordsP rows ws t (wordsN e t.f0.size) vs bad).2 := rfl
section
variable {D E N : Nat} {rows : List (List Int)} (ws : List ByteArray) (hws : ws.length ≤ 1000) (hasc : ws.Pairwise (fun v w => befW v w = true)) (l : List S89) (m : Nat)
include hws hasc
/-- One word, to which a factor leads. -/
theorem s_word (hm : m < l.length) (hll : l.length ≤ 1048576) (wv : List ByteArray) (i : Nat) (hi : i < wv.length) (hwv : wv.length ≤ 1000) (p : Int) (hp0 : p ≠ 0) (hp : p.natAbs ≤ 10000000000) (hval : okF2 l[m].f1) (n : Nat) (hn : n < ws.length) (hwn : ws[n] = wv[i]) (vs : List S27) (hok : okV vs) (hlen : vs.length = ws.length) {R : Int × Int × List S89 × Bool}
    (h : (if (putV vs (false || !(scP l[m].f1 p).2) n (selF (scP l[m].f1 p))).2 = true then R = (0, 0, [], false) else Ev (fun k => spec_l07Map.l1 k (E : Int) rows (m : Int) l[m].f0 wv ((i + 1 : Nat) : Int) (D : Int) (N : Int) l (E : Int) (N : Int) (termsOf ws (putV vs (false || !(scP l[m].f1 p).2) n (selF (scP l[m].f1 p))).1 ws.length)) R)) :
    Ev (fun k => (spec_l01Gcd.f k p l[m].f1.f1).bind fun (g : Int) => (if g = 0 then (none) else (if (wrap64 (Int.tdiv p g)) > 1000000000 then (spec_l07Map.j2 k (E : Int) rows (m : Int) l[m].f0 wv (i : Int) p g true (D : Int) (N : Int) l (E : Int) (N : Int) (termsOf ws vs ws.length) l[m].f1.f0 l[m].f1.f1) else (spec_l07Map.j2 k (E : Int) rows (m : Int) l[m].f0 wv (i : Int) p g (decide ((wrap64 (Int.tdiv p g)) < (-1000000000))) (D : Int) (N : Int) l (E : Int) (N : Int) (termsOf ws vs ws.length) l[m].f1.f0 l[m].f1.f1)))) R := by
  generalize l[m] = t at hval h ⊢
  obtain ⟨w, x⟩ := t
  dsimp only at hval h ⊢
  have hb := fitF_bounds hval
  obtain ⟨e1, e2, e3, e4⟩ := sc_parts x p hval hp0 hp
  have hg := spec_gcd_f x.f1.natAbs p x.f1 (Nat.le_refl _) (by omega) (by omega)
  refine Ev.bind (f := fun (k : Nat) (g : Int) => (if g = 0 then (none) else (if (wrap64 (Int.tdiv p g)) > 1000000000 then (spec_l07Map.j2 k (E : Int) rows (m : Int) w wv (i : Int) p g true (D : Int) (N : Int) l (E : Int) (N : Int) (termsOf ws vs ws.length) x.f0 x.f1) else (spec_l07Map.j2 k (E : Int) rows (m : Int) w wv (i : Int) p g (decide ((wrap64 (Int.tdiv p g)) < (-1000000000))) (D : Int) (N : Int) l (E : Int) (N : Int) (termsOf ws vs ws.length) x.f0 x.f1)))) hg ?_
  refine Ev.congr (fun k => if_neg e1) ?_
  unfold scP at h
  have ew : wrap64 (Int.tdiv p (Int.gcd p x.f1)) = Int.tdiv p (Int.gcd p x.f1) := wrap_of _ (by omega) (by omega)
  have er : wrap64 (Int.tdiv x.f1 (Int.gcd p x.f1)) = Int.tdiv x.f1 (Int.gcd p x.f1) := wrap_of _ (by omega) (by omega)
  rw [ew]
  have hj : ∀ b : Bool, (b = true ↔ ¬ (Int.tdiv p (Int.gcd p x.f1)).natAbs ≤ 1000000000) → Ev (fun k => spec_l07Map.j2 k (E : Int) rows (m : Int) w wv (i : Int) p (Int.gcd p x.f1) b (D : Int) (N : Int) l (E : Int) (N : Int) (termsOf ws vs ws.length) x.f0 x.f1) R := by
    intro b hbb
    by_cases hq : (Int.tdiv p (Int.gcd p x.f1)).natAbs ≤ 1000000000
    · have hbf : b = false := by
        cases b with
        | false => rfl
        | true => exact absurd hq (hbb.1 rfl)
      subst hbf
      rw [if_pos hq] at h
      have hb2 := mul_b hb.2.2.1 hb.2.2.2 (show -1000000000 ≤ Int.tdiv p (Int.gcd p x.f1) by omega) (show Int.tdiv p (Int.gcd p x.f1) ≤ 1000000000 by omega)
      have hfr := spec_frac_f (x.f0 * Int.tdiv p (Int.gcd p x.f1)) (Int.tdiv x.f1 (Int.gcd p x.f1)) (by omega) e3 (by omega)
      refine Ev.step (f := fun k => (spec_l01Frac.f k (x.f0 * Int.tdiv p (Int.gcd p x.f1)) (Int.tdiv x.f1 (Int.gcd p x.f1))).bind fun (bt : Int × Int × Bool) => (if bt.2.2 = true then ((spec_l01Put.f k (termsOf ws vs ws.length) ws[n] bt.1 bt.2.1).bind fun (bp : List S89 × Bool) => (if bp.2 = true then (spec_l07Map.l1 k (E : Int) rows (m : Int) w wv ((i + 1 : Nat) : Int) (D : Int) (N : Int) l (E : Int) (N : Int) bp.1) else (some (0, 0, ([] : List S89), false)))) else (some (0, 0, ([] : List S89), false)))) (fun k => ?_) ?_
      · rw [spec_l07Map.j2, if_neg (by simp), if_neg e1, ew, er, wrap_of (x.f0 * _) (by omega) (by omega)]
        congr 1
        funext bt
        by_cases hf : bt.2.2 = true
        · rw [if_pos hf, if_pos hf, if_pos (by omega), if_pos (by omega), rdOf_nat wv i hi, ← hwn, wrap_nat _ (by omega)]
        · rw [if_neg hf, if_neg hf]
      · generalize Int.tdiv p (Int.gcd p x.f1) = q at *
        generalize Int.tdiv x.f1 (Int.gcd p x.f1) = y at *
        generalize redF (x.f0 * q) y = z at hfr h
        obtain ⟨z0, z1⟩ := z
        dsimp only at hfr h
        refine Ev.bind (f := fun (k : Nat) (bt : Int × Int × Bool) => (if bt.2.2 = true then ((spec_l01Put.f k (termsOf ws vs ws.length) ws[n] bt.1 bt.2.1).bind fun (bp : List S89 × Bool) => (if bp.2 = true then (spec_l07Map.l1 k (E : Int) rows (m : Int) w wv ((i + 1 : Nat) : Int) (D : Int) (N : Int) l (E : Int) (N : Int) bp.1) else (some (0, 0, ([] : List S89), false)))) else (some (0, 0, ([] : List S89), false)))) hfr ?_
        cases hf : fitF z0 z1 with
        | false =>
          rw [hf] at h
          rw [if_pos (by simp [putV])] at h
          subst h
          exact Ev.congr (fun k => if_neg (by simp)) (Ev.now _)
        | true =>
          rw [hf] at h
          rw [if_pos rfl]
          refine Ev.congr (fun k => if_pos rfl) ?_
          have hpt := put_table ws hws hasc vs hlen hok n hn ⟨z0, z1⟩ hf
          refine Ev.bind (f := fun (k : Nat) (bp : List S89 × Bool) => (if bp.2 = true then (spec_l07Map.l1 k (E : Int) rows (m : Int) w wv ((i + 1 : Nat) : Int) (D : Int) (N : Int) l (E : Int) (N : Int) bp.1) else (some (0, 0, ([] : List S89), false)))) hpt ?_
          rw [selF_true] at h
          unfold putV at h
          generalize plusF (rd_T27 vs (n : Int)) ⟨z0, z1⟩ = u at h ⊢
          cases hu : fitF u.f0 u.f1 with
          | false =>
            rw [hu] at h
            rw [if_pos (by simp)] at h
            subst h
            rw [if_neg (by simp)]
            exact Ev.congr (fun k => if_neg (by simp)) (Ev.now _)
          | true =>
            rw [hu, if_neg (by simp), addV_true] at h
            rw [if_pos rfl]
            exact Ev.congr (fun k => if_pos rfl) h
    · have hbt : b = true := hbb.2 hq
      subst hbt
      rw [if_neg hq] at h
      rw [if_pos (by simp [putV])] at h
      subst h
      exact Ev.step (f := fun _ => some (0, 0, ([] : List S89), false)) (fun k => by rw [spec_l07Map.j2, if_pos rfl]) (Ev.now _)
  by_cases hq1 : Int.tdiv p (Int.gcd p x.f1) > 1000000000
  · exact Ev.congr (fun k => if_pos hq1) (hj true (by constructor <;> intro <;> first | rfl | omega))
  · refine Ev.congr (fun k => if_neg hq1) (hj _ ?_)
    rw [decide_eq_true_iff]
    constructor <;> intro h1 <;> omega
theorem s_l1 (hrows : isMap (D : Int) (E : Int) rows = true) (hl : lvlOk (E : Int) (N : Int) = true) (hwsE : ws = allW E (N + 1) 0) (hm : m < l.length) (hll : l.length ≤ 1048576) (ht : Term1 D N l[m]) {R : Int × Int × List S89 × Bool} (wv : List ByteArray) (hwv : wv = wordsN E l[m].f0.size) :
    ∀ e i vs, i + e = wv.length → okV vs → vs.length = ws.length →
      (if (wordsP rows ws l[m] (wv.drop i) vs false).2 = true then R = (0, 0, [], false) else Ev (fun k => spec_l07Map.l0 k (E : Int) rows ((m + 1 : Nat) : Int) (D : Int) (N : Int) l (E : Int) (N : Int) (termsOf ws (wordsP rows ws l[m] (wv.drop i) vs false).1 ws.length)) R) →
      Ev (fun k => spec_l07Map.l1 k (E : Int) rows (m : Int) l[m].f0 wv (i : Int) (D : Int) (N : Int) l (E : Int) (N : Int) (termsOf ws vs ws.length)) R
  | 0, i, vs, hi, hok, hlen, h => by
    rw [List.drop_of_length_le (by omega)] at h
    rw [wordsP_nil, if_neg (by simp)] at h
    refine Ev.step (fun k => ?_) h
    rw [spec_l07Map.l1, if_neg (by omega), wrap_nat _ (by omega)]
  | e + 1, i, vs, hi, hok, hlen, h => by
    have hlt : i < wv.length := by omega
    have hmem : wv[i] ∈ wordsN E l[m].f0.size := by rw [← hwv]; exact List.getElem_mem hlt
    obtain ⟨a1, a2, a3, a4, a5, a6⟩ := step_facts hrows hl ht hmem
    rw [← hwsE] at a4 a5
    have hwn : ws[idxW ws wv[i]] = wv[i] := (List.getElem?_eq_some_iff.1 a5).2
    have hbE := isMap_bounds hrows
    have hwl : wv.length ≤ 1000 := by
      rw [hwv]
      exact Nat.le_trans (wordsN_small E (by omega) _ a3) (by omega)
    have hf := spec_fac_f hrows ht.word a1 a2 a3
    have hsm := fac_small hrows ht.word a1 a2 a3
    have hrd : rd_T89 l (m : Int) = l[m] := rdI_nat l m hm
    rw [List.drop_eq_getElem_cons hlt] at h
    rw [wordsP_cons] at h
    obtain ⟨w1, w2, w3⟩ := wordP_ok rows ws l[m] wv[i] vs false hok
    have ih := s_l1 hrows hl hwsE hm hll ht (R := R) wv hwv e (i + 1) (wordP rows ws l[m] wv[i] vs false).1 (by omega) w1 (w2.trans hlen)
    refine Ev.step (f := fun k => (spec_l07Factor.f k rows l[m].f0 wv[i]).bind fun (p : Int) => (if p = 0 then (spec_l07Map.l1 k (E : Int) rows (m : Int) l[m].f0 wv ((i + 1 : Nat) : Int) (D : Int) (N : Int) l (E : Int) (N : Int) (termsOf ws vs ws.length)) else ((spec_l01Gcd.f k p l[m].f1.f1).bind fun (g : Int) => (if g = 0 then (none) else (if (wrap64 (Int.tdiv p g)) > 1000000000 then (spec_l07Map.j2 k (E : Int) rows (m : Int) l[m].f0 wv (i : Int) p g true (D : Int) (N : Int) l (E : Int) (N : Int) (termsOf ws vs ws.length) l[m].f1.f0 l[m].f1.f1) else (spec_l07Map.j2 k (E : Int) rows (m : Int) l[m].f0 wv (i : Int) p g (decide ((wrap64 (Int.tdiv p g)) < (-1000000000))) (D : Int) (N : Int) l (E : Int) (N : Int) (termsOf ws vs ws.length) l[m].f1.f0 l[m].f1.f1)))))) (fun k => ?_) ?_
    · rw [spec_l07Map.l1, if_pos (by omega), if_pos (by omega), rdOf_nat wv i hlt]
      congr 1
      funext p
      by_cases hp : p = 0
      · rw [if_pos hp, if_pos hp, wrap_nat _ (by omega)]
      · rw [if_neg hp, if_neg hp, if_pos (by omega), if_pos (by omega), hrd]
    · refine Ev.bind (f := fun (k : Nat) (p : Int) => (if p = 0 then (spec_l07Map.l1 k (E : Int) rows (m : Int) l[m].f0 wv ((i + 1 : Nat) : Int) (D : Int) (N : Int) l (E : Int) (N : Int) (termsOf ws vs ws.length)) else ((spec_l01Gcd.f k p l[m].f1.f1).bind fun (g : Int) => (if g = 0 then (none) else (if (wrap64 (Int.tdiv p g)) > 1000000000 then (spec_l07Map.j2 k (E : Int) rows (m : Int) l[m].f0 wv (i : Int) p g true (D : Int) (N : Int) l (E : Int) (N : Int) (termsOf ws vs ws.length) l[m].f1.f0 l[m].f1.f1) else (spec_l07Map.j2 k (E : Int) rows (m : Int) l[m].f0 wv (i : Int) p g (decide ((wrap64 (Int.tdiv p g)) < (-1000000000))) (D : Int) (N : Int) l (E : Int) (N : Int) (termsOf ws vs ws.length) l[m].f1.f0 l[m].f1.f1)))))) hf ?_
      by_cases hp : facP rows l[m].f0 wv[i] l[m].f0.size 0 1 = 0
      · refine Ev.congr (fun k => if_pos hp) ?_
        have ew : wordP rows ws l[m] wv[i] vs false = (vs, false) := by unfold wordP; rw [if_pos hp]
        rw [ew] at ih h
        exact ih h
      · refine Ev.congr (fun k => if_neg hp) ?_
        refine s_word ws hws hasc l m hm hll wv i hlt hwl _ hp hsm ht.val _ a4 hwn vs hok hlen ?_
        have ew : wordP rows ws l[m] wv[i] vs false = putV vs (false || !(scP l[m].f1 (facP rows l[m].f0 wv[i] l[m].f0.size 0 1)).2) (idxW ws wv[i]) (selF (scP l[m].f1 (facP rows l[m].f0 wv[i] l[m].f0.size 0 1))) := by unfold wordP; rw [if_neg hp]
        rw [← ew]
        cases hbad : (wordP rows ws l[m] wv[i] vs false).2 with
        | true =>
          rw [if_pos rfl]
          rw [hbad, if_pos ((wordsP_ok rows ws l[m] _ _ true w1).2.2 rfl)] at h
          exact h
        | false =>
          rw [if_neg (by simp)]
          rw [hbad] at h
          exact ih h
theorem s_l0 (hrows : isMap (D : Int) (E : Int) rows = true) (hl : lvlOk (E : Int) (N : Int) = true) (hwsE : ws = allW E (N + 1) 0) (hll : l.length ≤ 1048576) (ht : ∀ t ∈ l, Term1 D N t) :
    ∀ e m vs, m + e = l.length → okV vs → vs.length = ws.length →
      Ev (fun k => spec_l07Map.l0 k (E : Int) rows (m : Int) (D : Int) (N : Int) l (E : Int) (N : Int) (termsOf ws vs ws.length)) (if (termsP rows E ws (l.drop m) vs false).2 = true then (0, 0, [], false) else ((E : Int), (N : Int), termsOf ws (termsP rows E ws (l.drop m) vs false).1 ws.length, true))
  | 0, m, vs, hm, hok, hlen => by
    rw [List.drop_of_length_le (by omega)]
    refine Ev.step (f := fun _ => some ((E : Int), (N : Int), termsOf ws vs ws.length, true)) (fun k => ?_) (Ev.now _)
    rw [spec_l07Map.l0, if_neg (by omega)]
  | e + 1, m, vs, hm, hok, hlen => by
    have hlt : m < l.length := by omega
    have h1 := ht _ (List.getElem_mem hlt)
    have hbE := isMap_bounds hrows
    have hbl := lvlOk_bounds hl
    have hts := h1.size
    have hrd : rd_T89 l (m : Int) = l[m] := rdI_nat l m hlt
    have hwd : Ev (fun k => spec_l01Words.f k (E : Int) (l[m].f0.size : Int)) (wordsN E l[m].f0.size) := ⟨20000, fun k hk => spec_l01Words_f k E _ (by omega) (by omega) hk⟩
    obtain ⟨w1, w2, w3⟩ := wordsP_ok rows ws l[m] (wordsN E l[m].f0.size) vs false hok
    have ih := s_l0 hrows hl hwsE hll ht e (m + 1) (wordsP rows ws l[m] (wordsN E l[m].f0.size) vs false).1 (by omega) w1 (w2.trans hlen)
    rw [List.drop_eq_getElem_cons hlt]
    rw [termsP_cons]
    refine Ev.step (f := fun k => (spec_l01Words.f k (E : Int) (l[m].f0.size : Int)).bind fun (wv : List ByteArray) => spec_l07Map.l1 k (E : Int) rows (m : Int) l[m].f0 wv ((0 : Nat) : Int) (D : Int) (N : Int) l (E : Int) (N : Int) (termsOf ws vs ws.length)) (fun k => ?_) ?_
    · rw [spec_l07Map.l0, if_pos (by omega), if_pos (by omega), hrd]; rfl
    · refine Ev.bind (f := fun (k : Nat) (wv : List ByteArray) => spec_l07Map.l1 k (E : Int) rows (m : Int) l[m].f0 wv ((0 : Nat) : Int) (D : Int) (N : Int) l (E : Int) (N : Int) (termsOf ws vs ws.length)) hwd ?_
      refine s_l1 ws hws hasc l m hrows hl hwsE hlt hll h1 (wordsN E l[m].f0.size) rfl (wordsN E l[m].f0.size).length 0 vs (by omega) hok hlen ?_
      rw [List.drop_zero]
      cases hbad : (wordsP rows ws l[m] (wordsN E l[m].f0.size) vs false).2 with
      | true =>
        rw [if_pos rfl, if_pos ((termsP_ok rows E ws _ _ true w1).2.2 rfl)]
      | false =>
        rw [if_neg (by simp)]
        exact ih
end
end Go.Proofs.Ytcklefgkbddlhaa.Pure
