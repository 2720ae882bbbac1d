/- Plain lemmas: the signature of a group word, as the reference reckons it. -/
import Derived.Test.YtcklefgkbddlhaaPx8
import Derived.Test.YtcklefgkbddlhaaBaseSigU
import Derived.Test.YtcklefgkbddlhaaBaseSigQ
namespace Go.Proofs.Ytcklefgkbddlhaa.Pure
open Go.RowKit Go.Proofs.Ytcklefgkbddlhaa.P Go.Proofs.Ytcklefgkbddlhaa.Tab Go.Proofs.YtcklefgkbddlhaaW.PrintWords Go.Proofs.YtcklefgkbddlhaaW.PrintLast
set_option linter.unusedVariables false
set_option linter.unusedSimpArgs false

theorem partT_nil (ws : List ByteArray) (vs : List S27) : ∀ (e i : Nat), (∀ j : Nat, i ≤ j → j < i + e → (rd_T27 vs (j : Int)).f0 = 0) → partT ws vs i e = []
  | 0, i, _ => by simp [partT]
  | e + 1, i, h => by
    have ih := partT_nil ws vs e (i + 1) (fun j h1 h2 => h j (by omega) (by omega))
    unfold partT at ih ⊢
    rw [List.range'_succ, List.flatMap_cons, ih, List.append_nil, oneT, if_pos (h i (by omega) (by omega))]
theorem valP_num (A : List UInt8 → Int) (w : ByteArray) : (valP A w).f0 = 0 ↔ A w.toList = 0 := frP_num _ _ (fct_pos _)
theorem sign_frac (s : Int) (hs : s = 1 ∨ s = -1) (m : Nat) : frP s (m + 1) = ⟨s, ((m + 1 : Nat) : Int)⟩ := by
  have hg : Int.gcd s ((m + 1 : Nat) : Int) = 1 := by rcases hs with rfl | rfl <;> simp
  unfold frP redF
  rw [hg]
  simp
/-- Between the words of some lengths: those up to a length have got their parts. -/
def midA (F G : List UInt8 → Int) (b : Nat) (w : List UInt8) : Int := if w.length < b then F w + G w else F w
theorem mid_step {D N : Nat} (hl : lvlOk (D : Int) (N : Int) = true) (A : List UInt8 → Int) (n : Int) (v u : ByteArray) (m : Nat) (hu : u.toList = v.toList ++ rp (ltr n) m) (F : List UInt8 → Int) (i : Nat) (hi : (allW D (N + 1) 0)[i]? = some u) (hs : u.size ≤ N) :
    (tabP (allW D (N + 1) 0) (midA F (addT A (expA (ltr n) (sgn n) (N + 1)) v.toList) (v.size + m))).set i (valP (midA F (addT A (expA (ltr n) (sgn n) (N + 1)) v.toList) (v.size + (m + 1))) u) = tabP (allW D (N + 1) 0) (midA F (addT A (expA (ltr n) (sgn n) (N + 1)) v.toList) (v.size + (m + 1))) := by
  have hb := lvlOk_bounds hl
  refine List.ext_getElem (by simp [tabP]) (fun j h1 h2 => ?_)
  rw [List.getElem_set]
  have hjl : j < (allW D (N + 1) 0).length := by rw [tabP_length] at h2; exact h2
  by_cases e : i = j
  · subst e
    rw [if_pos rfl]
    simp only [tabP, List.getElem_map]
    rw [(List.getElem?_eq_some_iff.1 hi).2]
  · rw [if_neg e]
    simp only [tabP, List.getElem_map]
    have hne : (allW D (N + 1) 0)[j] ≠ u := fun h => e (allW_inj D (by omega) N i j u hi (List.getElem?_eq_some_iff.2 ⟨hjl, h⟩))
    have hvl : v.toList.length = v.size := tl_length v
    generalize (allW D (N + 1) 0)[j] = w at hne
    unfold valP
    congr 1
    unfold midA
    by_cases h3 : w.toList.length < v.size + m
    · rw [if_pos h3, if_pos (by omega)]
    · rw [if_neg h3]
      by_cases h4 : w.toList.length < v.size + (m + 1)
      · rw [if_pos h4]
        have hz : addT A (expA (ltr n) (sgn n) (N + 1)) v.toList w.toList = 0 := by
          unfold addT
          split
          · rename_i hp
            unfold expA
            rw [if_neg (fun hq => ?_)]
            · simp
            · apply hne
              refine tl_inj ?_
              rw [hu, ← List.take_append_drop v.toList.length w.toList, hp.2, hq.1, List.length_drop]
              congr 2
              omega
          · rfl
        rw [hz, Int.add_zero]
      · rw [if_neg h4]
section
variable {D N : Nat} (hl : lvlOk (D : Int) (N : Int) = true) {A : List UInt8 → Int} (hA : ∀ v : List UInt8, v.length ≤ 5 → (A v).natAbs ≤ 371293) {n : Int} (hn : n ≠ 0 ∧ -(D : Int) ≤ n ∧ n ≤ D)
include hl hA hn
theorem step_l1 (v : ByteArray) (hv : okW D v) (hvs : v.size ≤ N) (T : List S89) (x : Nat) (hx : x ≤ 1000) (F : List UInt8 → Int) (hF : ∀ w ∈ allW D (N + 1) 0, (F w.toList).natAbs ≤ 1000000000) (hF2 : ∀ w ∈ allW D (N + 1) 0, (F w.toList + addT A (expA (ltr n) (sgn n) (N + 1)) v.toList w.toList).natAbs ≤ 1000000000) {R : Int × Int × List S89}
    (h : Ev (fun k => spec_l09Step.l0 k (wbyte (n.natAbs - 1)) (sgn n) ((x + 1 : Nat) : Int) (D : Int) (N : Int) T (D : Int) (N : Int) (termsOf (allW D (N + 1) 0) (tabP (allW D (N + 1) 0) (fun w => F w + addT A (expA (ltr n) (sgn n) (N + 1)) v.toList w)) (allW D (N + 1) 0).length)) R) :
    ∀ e m u, v.size + m + e = N + 1 → u.toList = v.toList ++ rp (ltr n) m →
      Ev (fun k => spec_l09Step.l1 k (wbyte (n.natAbs - 1)) (sgn n) (x : Int) u ((m + 1 : Nat) : Int) (D : Int) (N : Int) T (D : Int) (N : Int) (termsOf (allW D (N + 1) 0) (tabP (allW D (N + 1) 0) (midA F (addT A (expA (ltr n) (sgn n) (N + 1)) v.toList) (v.size + m))) (allW D (N + 1) 0).length) (frP (A v.toList * sgn n ^ m) (fct v.size * fct m)).f0 (frP (A v.toList * sgn n ^ m) (fct v.size * fct m)).f1) R
  | 0, m, u, he, hu => by
    have hb := lvlOk_bounds hl
    have hus : u.size = v.size + m := by rw [← tl_length, hu, List.length_append, tl_length]; simp [rp]
    have e1 : tabP (allW D (N + 1) 0) (midA F (addT A (expA (ltr n) (sgn n) (N + 1)) v.toList) (v.size + m)) = tabP (allW D (N + 1) 0) (fun w => F w + addT A (expA (ltr n) (sgn n) (N + 1)) v.toList w) := tabP_congr _ _ _ (fun w hw => by
      have := (allW_ok D (by omega) N w hw).2
      unfold midA
      rw [if_pos (by rw [tl_length]; omega)])
    rw [e1]
    refine Ev.step (fun k => ?_) h
    rw [spec_l09Step.l1, if_neg (by omega), wrap_nat _ (by omega)]
  | e + 1, m, u, he, hu => by
    have hb := lvlOk_bounds hl
    have hs := sgn_or n
    have hus : u.size = v.size + m := by rw [← tl_length, hu, List.length_append, tl_length]; simp [rp]
    have hvl : v.toList.length = v.size := tl_length v
    have hul : u.toList.length = u.size := tl_length u
    have hltr : (ltr n).toNat = 47 + n.natAbs := by unfold ltr; rw [UInt8.toNat_ofNat']; omega
    have huok : okW D u := okW_of (fun i hi => by
      simp only [hu]
      by_cases h1 : i < v.toList.length
      · rw [List.getElem_append_left h1]
        exact okW_list hv i h1
      · rw [List.getElem_append_right (by omega)]
        simp only [rp, List.getElem_replicate]
        omega)
    obtain ⟨i, hil, hie, _⟩ := numbered D N hl u huok (by omega)
    have ih := step_l1 v hv hvs T x hx F hF hF2 h e (m + 1) (u ++ wbyte (n.natAbs - 1)) (by omega) (by
      rw [app_toList, tl_wbyte, hu, List.append_assoc]
      congr 1
      rw [rp, rp, List.replicate_succ', show 48 + (n.natAbs - 1) = 47 + n.natAbs by omega]
      rfl)
    have f1 := fct_pos v.size
    have f2 := fct_pos m
    have f3 := fct_pos u.size
    have f4 := fct_pos (m + 1)
    have g1 := fct_small v.size (by omega)
    have g2 := fct_small m (by omega)
    have g3 := fct_small u.size (by omega)
    have g4 : fct (m + 1) ≤ 720 := by
      rw [fct]
      exact Nat.le_trans (Nat.mul_le_mul (show m + 1 ≤ 6 by omega) g2) (by decide)
    have hfm : fct v.size * fct m ≤ 14400 := Nat.mul_le_mul g1 g2
    have hfp : 1 ≤ fct v.size * fct m := Nat.mul_le_mul f1 f2
    have hfm4 : fct v.size * fct (m + 1) ≤ 86400 := Nat.mul_le_mul g1 g4
    have hfp4 : 1 ≤ fct v.size * fct (m + 1) := Nat.mul_le_mul f1 f4
    have hA1 := hA v.toList (by omega)
    have hAs : ∀ q : Nat, (A v.toList * sgn n ^ q).natAbs ≤ 371293 := fun q => by
      rw [Int.natAbs_mul]
      exact Nat.le_trans (Nat.mul_le_mul hA1 (pow_sign _ hs q)) (by decide)
    have hbin := bin_fct u.size (by omega) v.size (by omega)
    rw [show u.size - v.size = m by omega] at hbin
    have ea : frP (A v.toList * sgn n ^ m) (fct v.size * fct m) = frP ((bin u.size v.size : Int) * (A v.toList * sgn n ^ m)) (fct u.size) := by
      refine frP_eq _ _ _ _ hfp f3 ?_
      rw [← hbin, Int.natCast_mul]
      ac_rfl
    have hokA := frP_fit (A v.toList * sgn n ^ m) (fct v.size * fct m) hfp (by have := hAs m; omega) (by omega)
    have hadd : addT A (expA (ltr n) (sgn n) (N + 1)) v.toList u.toList = (bin u.size v.size : Int) * (A v.toList * sgn n ^ m) := by
      unfold addT
      rw [hul, hvl, hu, ← hvl, List.take_left, List.drop_left, if_pos ⟨by omega, rfl⟩]
      unfold expA
      rw [if_pos ⟨by simp [rp], by simp [rp]; omega⟩]
      simp [rp]
    have hmid0 : midA F (addT A (expA (ltr n) (sgn n) (N + 1)) v.toList) (v.size + m) u.toList = F u.toList := by
      unfold midA; rw [if_neg (by omega)]
    have hmid1 : midA F (addT A (expA (ltr n) (sgn n) (N + 1)) v.toList) (v.size + (m + 1)) u.toList = F u.toList + (bin u.size v.size : Int) * (A v.toList * sgn n ^ m) := by
      unfold midA; rw [if_pos (by omega), hadd]
    have hmem : u ∈ allW D (N + 1) 0 := List.mem_of_getElem? hie
    have hw := allW_length D N hl
    have hput := put_table (allW D (N + 1) 0) hw.2 (allW_asc D (by omega) (N + 1) 0) (tabP (allW D (N + 1) 0) (midA F (addT A (expA (ltr n) (sgn n) (N + 1)) v.toList) (v.size + m))) (tabP_length _ _) (fun y hy => by
      obtain ⟨w, hwm, rfl⟩ := List.mem_map.1 hy
      have := fct_small w.size (by have := (allW_ok D (by omega) N w hwm).2; omega)
      refine frP_fit _ _ (fct_pos _) ?_ (by omega)
      unfold midA
      split
      · exact hF2 w hwm
      · exact hF w hwm) i hil _ hokA
    have hrd := tabP_rd (allW D (N + 1) 0) (midA F (addT A (expA (ltr n) (sgn n) (N + 1)) v.toList) (v.size + m)) i u hie
    have hpl : plusF (valP (midA F (addT A (expA (ltr n) (sgn n) (N + 1)) v.toList) (v.size + m)) u) (frP (A v.toList * sgn n ^ m) (fct v.size * fct m)) = valP (midA F (addT A (expA (ltr n) (sgn n) (N + 1)) v.toList) (v.size + (m + 1))) u := by
      unfold valP
      rw [hmid0, hmid1, ea, frP_plus _ _ _ f3]
    have hokM : okF2 (valP (midA F (addT A (expA (ltr n) (sgn n) (N + 1)) v.toList) (v.size + (m + 1))) u) := by
      unfold valP
      rw [hmid1, ← hadd]
      exact frP_fit _ _ f3 (hF2 u hmem) (by omega)
    rw [hrd, hpl, if_pos (show fitF _ _ = true from hokM), mid_step hl A n v u m hu F i hie (by omega), (List.getElem?_eq_some_iff.1 hie).2] at hput
    have hfr : Ev (fun k => spec_l01Frac.f k (wrap64 ((frP (A v.toList * sgn n ^ m) (fct v.size * fct m)).f0 * sgn n)) (wrap64 ((frP (A v.toList * sgn n ^ m) (fct v.size * fct m)).f1 * ((m + 1 : Nat) : Int)))) ((frP (A v.toList * sgn n ^ (m + 1)) (fct v.size * fct (m + 1))).f0, (frP (A v.toList * sgn n ^ (m + 1)) (fct v.size * fct (m + 1))).f1, true) := by
      have et := frP_times (A v.toList * sgn n ^ m) (sgn n) (fct v.size * fct m) (m + 1) hfp (by omega)
      rw [sign_frac _ hs m] at et
      have e5 : A v.toList * sgn n ^ m * sgn n = A v.toList * sgn n ^ (m + 1) := by rw [Int.mul_assoc, Int.pow_succ]
      have e6 : fct v.size * fct m * (m + 1) = fct v.size * fct (m + 1) := by rw [Nat.mul_assoc, fct, Nat.mul_comm (fct m)]
      rw [e5, e6] at et
      have hok2 := frP_fit (A v.toList * sgn n ^ (m + 1)) (fct v.size * fct (m + 1)) hfp4 (by have := hAs (m + 1); omega) (by omega)
      have hbd := fitF_bounds hokA
      generalize frP (A v.toList * sgn n ^ (m + 1)) (fct v.size * fct (m + 1)) = z at et hok2
      generalize frP (A v.toList * sgn n ^ m) (fct v.size * fct m) = y at et hbd
      have b1 : (y.f0 * sgn n).natAbs ≤ 1000000000 := by
        rw [Int.natAbs_mul]
        refine Nat.le_trans (Nat.mul_le_mul (show y.f0.natAbs ≤ 1000000000 by omega) (show (sgn n).natAbs ≤ 1 by omega)) (by decide)
      have b2 : 1 ≤ y.f1 * ((m + 1 : Nat) : Int) := by
        have := Int.mul_le_mul hbd.1 (show (1 : Int) ≤ ((m + 1 : Nat) : Int) by omega) (by omega) (by omega)
        omega
      have b3 : (y.f1 * ((m + 1 : Nat) : Int)).natAbs ≤ 10000000000 := by
        rw [Int.natAbs_mul]
        refine Nat.le_trans (Nat.mul_le_mul (show y.f1.natAbs ≤ 1000000000 by omega) (show ((m + 1 : Nat) : Int).natAbs ≤ 10 by omega)) (by decide)
      rw [wrap_of _ (by omega) (by omega), wrap_of _ (by omega) (by omega)]
      have := spec_frac_f (y.f0 * sgn n) (y.f1 * ((m + 1 : Nat) : Int)) (by omega) b2 (by omega)
      have e7 : (redF (y.f0 * sgn n) (y.f1 * ((m + 1 : Nat) : Int))).1 = z.f0 ∧ (redF (y.f0 * sgn n) (y.f1 * ((m + 1 : Nat) : Int))).2 = z.f1 := by
        rw [← et]; exact ⟨rfl, rfl⟩
      rw [e7.1, e7.2, if_pos (show fitF z.f0 z.f1 = true from hok2)] at this
      exact this
    refine Ev.step (f := fun k => (spec_l01Put.f k (termsOf (allW D (N + 1) 0) (tabP (allW D (N + 1) 0) (midA F (addT A (expA (ltr n) (sgn n) (N + 1)) v.toList) (v.size + m))) (allW D (N + 1) 0).length) u (frP (A v.toList * sgn n ^ m) (fct v.size * fct m)).f0 (frP (A v.toList * sgn n ^ m) (fct v.size * fct m)).f1).bind fun (b : List S89 × Bool) => (spec_l01Frac.f k (wrap64 ((frP (A v.toList * sgn n ^ m) (fct v.size * fct m)).f0 * sgn n)) (wrap64 ((frP (A v.toList * sgn n ^ m) (fct v.size * fct m)).f1 * ((m + 1 : Nat) : Int)))).bind fun (r : Int × Int × Bool) => spec_l09Step.l1 k (wbyte (n.natAbs - 1)) (sgn n) (x : Int) (u ++ wbyte (n.natAbs - 1)) ((m + 1 + 1 : Nat) : Int) (D : Int) (N : Int) T (D : Int) (N : Int) b.1 r.1 r.2.1) (fun k => ?_) ?_
    · rw [spec_l09Step.l1, if_pos (by omega)]
      congr 1
      funext b
      rw [if_pos (by rw [wbyte_size]; omega), wrap_nat _ (by omega)]
    · refine Ev.bind (f := fun (k : Nat) (b : List S89 × Bool) => (spec_l01Frac.f k (wrap64 ((frP (A v.toList * sgn n ^ m) (fct v.size * fct m)).f0 * sgn n)) (wrap64 ((frP (A v.toList * sgn n ^ m) (fct v.size * fct m)).f1 * ((m + 1 : Nat) : Int)))).bind fun (r : Int × Int × Bool) => spec_l09Step.l1 k (wbyte (n.natAbs - 1)) (sgn n) (x : Int) (u ++ wbyte (n.natAbs - 1)) ((m + 1 + 1 : Nat) : Int) (D : Int) (N : Int) T (D : Int) (N : Int) b.1 r.1 r.2.1) hput ?_
      exact Ev.bind (f := fun (k : Nat) (r : Int × Int × Bool) => spec_l09Step.l1 k (wbyte (n.natAbs - 1)) (sgn n) (x : Int) (u ++ wbyte (n.natAbs - 1)) ((m + 1 + 1 : Nat) : Int) (D : Int) (N : Int) T (D : Int) (N : Int) _ r.1 r.2.1) hfr ih
theorem step_l0 (hb : ∀ w ∈ allW D (N + 1) 0, ∀ i, i ≤ w.size + 1 → (cv A (expA (ltr n) (sgn n) (N + 1)) w.toList i).natAbs ≤ 1000000000) : ∀ (rest pre : List ByteArray), pre ++ rest = allW D (N + 1) 0 →
    Ev (fun k => spec_l09Step.l0 k (wbyte (n.natAbs - 1)) (sgn n) (((partT (allW D (N + 1) 0) (tabP (allW D (N + 1) 0) A) 0 pre.length).length : Nat) : Int) (D : Int) (N : Int) (termsOf (allW D (N + 1) 0) (tabP (allW D (N + 1) 0) A) (allW D (N + 1) 0).length) (D : Int) (N : Int) (termsOf (allW D (N + 1) 0) (tabP (allW D (N + 1) 0) (sumT A (expA (ltr n) (sgn n) (N + 1)) pre)) (allW D (N + 1) 0).length))
      ((D : Int), (N : Int), termsOf (allW D (N + 1) 0) (tabP (allW D (N + 1) 0) (sumT A (expA (ltr n) (sgn n) (N + 1)) (allW D (N + 1) 0))) (allW D (N + 1) 0).length)
  | [], pre, h => by
    rw [List.append_nil] at h
    rw [h, termsOf_part, termsOf_part]
    refine Ev.step (f := fun _ => some ((D : Int), (N : Int), partT (allW D (N + 1) 0) (tabP (allW D (N + 1) 0) (sumT A (expA (ltr n) (sgn n) (N + 1)) (allW D (N + 1) 0))) 0 (allW D (N + 1) 0).length)) (fun k => ?_) (Ev.now _)
    rw [spec_l09Step.l0, if_neg (by omega)]
  | v :: rest, pre, h => by
    have hbl := lvlOk_bounds hl
    have hj : (allW D (N + 1) 0)[pre.length]? = some v := by rw [← h]; simp
    have hvm : v ∈ allW D (N + 1) 0 := List.mem_of_getElem? hj
    obtain ⟨hjl, hje⟩ := List.getElem?_eq_some_iff.1 hj
    have hok := allW_ok D (by omega) N
    obtain ⟨hv, hvs⟩ := hok v hvm
    have ih := step_l0 hb rest (pre ++ [v]) (by rw [← h]; simp)
    have hw := allW_length D N hl
    have hrd := tabP_rd (allW D (N + 1) 0) A pre.length v hj
    have hrw : rdOf ByteArray.empty (allW D (N + 1) 0) (pre.length : Int) = v := by rw [rdOf_nat _ _ hjl, hje]
    obtain ⟨e, he⟩ : ∃ e, (allW D (N + 1) 0).length = pre.length + 1 + e := ⟨(allW D (N + 1) 0).length - (pre.length + 1), by omega⟩
    have hsp := partT_split (allW D (N + 1) 0) (tabP (allW D (N + 1) 0) A) pre.length 0
    rw [Nat.add_zero, show partT (allW D (N + 1) 0) (tabP (allW D (N + 1) 0) A) (pre.length + 1) 0 = [] from by simp [partT], List.append_nil, hrd, hrw] at hsp
    have hfull := partT_split (allW D (N + 1) 0) (tabP (allW D (N + 1) 0) A) pre.length e
    rw [← he, hrd, hrw] at hfull
    rw [List.length_append, List.length_singleton, hsp] at ih
    have hsum : ∀ w, sumT A (expA (ltr n) (sgn n) (N + 1)) (pre ++ [v]) w = sumT A (expA (ltr n) (sgn n) (N + 1)) pre w + addT A (expA (ltr n) (sgn n) (N + 1)) v.toList w := fun w => by
      rw [sumT_append, sumT, sumT, Int.add_zero]
    by_cases hz : A v.toList = 0
    · have h0 : (valP A v).f0 = 0 := (valP_num A v).2 hz
      have e1 : tabP (allW D (N + 1) 0) (sumT A (expA (ltr n) (sgn n) (N + 1)) (pre ++ [v])) = tabP (allW D (N + 1) 0) (sumT A (expA (ltr n) (sgn n) (N + 1)) pre) := tabP_congr _ _ _ (fun w _ => by
        rw [hsum]
        unfold addT
        rw [hz]
        simp)
      rw [e1, oneT, if_pos h0, List.append_nil] at ih
      exact ih
    · have h0 : ¬ (valP A v).f0 = 0 := fun h2 => hz ((valP_num A v).1 h2)
      rw [oneT, if_neg h0, List.length_append, List.length_singleton] at ih
      rw [oneT, if_neg h0] at hfull
      have hpl := partT_length (allW D (N + 1) 0) (tabP (allW D (N + 1) 0) A) pre.length 0
      have hF : ∀ (l1 l2 : List ByteArray), l1 ++ l2 = allW D (N + 1) 0 → ∀ w ∈ allW D (N + 1) 0, (sumT A (expA (ltr n) (sgn n) (N + 1)) l1 w.toList).natAbs ≤ 1000000000 := fun l1 l2 h3 w hwm => by
        obtain ⟨i, hi, e4⟩ := sumT_pre A (expA (ltr n) (sgn n) (N + 1)) D (by omega) w (hok w hwm).1 (N + 1) 0 l1 l2 h3
        rw [Nat.zero_min, cv, Int.zero_add] at e4
        rw [e4]
        exact hb w hwm i hi
      have hl1 := step_l1 hl hA hn v hv hvs (termsOf (allW D (N + 1) 0) (tabP (allW D (N + 1) 0) A) (allW D (N + 1) 0).length) (partT (allW D (N + 1) 0) (tabP (allW D (N + 1) 0) A) 0 pre.length).length (by omega) (sumT A (expA (ltr n) (sgn n) (N + 1)) pre) (hF pre (v :: rest) h) (fun w hwm => by
        have := hF (pre ++ [v]) rest (by rw [← h]; simp) w hwm
        rw [hsum] at this
        exact this) (by
        rw [show (fun w => sumT A (expA (ltr n) (sgn n) (N + 1)) pre w + addT A (expA (ltr n) (sgn n) (N + 1)) v.toList w) = sumT A (expA (ltr n) (sgn n) (N + 1)) (pre ++ [v]) from (funext hsum).symm]
        exact ih) (N + 1 - v.size) 0 v (by omega) (by simp [rp])
      have e2 : tabP (allW D (N + 1) 0) (midA (sumT A (expA (ltr n) (sgn n) (N + 1)) pre) (addT A (expA (ltr n) (sgn n) (N + 1)) v.toList) (v.size + 0)) = tabP (allW D (N + 1) 0) (sumT A (expA (ltr n) (sgn n) (N + 1)) pre) := tabP_congr _ _ _ (fun w _ => by
        unfold midA
        split
        · rename_i h5
          unfold addT
          rw [if_neg (fun h6 => by have := h6.1; rw [tl_length v] at this; omega), Int.add_zero]
        · rfl)
      have e3 : frP (A v.toList * sgn n ^ 0) (fct v.size * fct 0) = valP A v := by
        unfold valP
        rw [Int.pow_zero, Int.mul_one, show fct 0 = 1 from rfl, Nat.mul_one]
      rw [e2, e3] at hl1
      refine Ev.step (fun k => ?_) hl1
      have hT : rd_T89 (termsOf (allW D (N + 1) 0) (tabP (allW D (N + 1) 0) A) (allW D (N + 1) 0).length) (((partT (allW D (N + 1) 0) (tabP (allW D (N + 1) 0) A) 0 pre.length).length : Nat) : Int) = ⟨v, valP A v⟩ := by
        rw [termsOf_part, hfull]
        simp [rd_T89]
      have hTl : (partT (allW D (N + 1) 0) (tabP (allW D (N + 1) 0) A) 0 pre.length).length < (termsOf (allW D (N + 1) 0) (tabP (allW D (N + 1) 0) A) (allW D (N + 1) 0).length).length := by
        rw [termsOf_part, hfull]
        simp
      rw [spec_l09Step.l0, if_pos (by omega), if_pos (by omega), hT]
      rfl
theorem step_f (hb : ∀ w ∈ allW D (N + 1) 0, ∀ i, i ≤ w.size + 1 → (cv A (expA (ltr n) (sgn n) (N + 1)) w.toList i).natAbs ≤ 1000000000) :
    Ev (fun k => spec_l09Step.f k (D : Int) (N : Int) (termsOf (allW D (N + 1) 0) (tabP (allW D (N + 1) 0) A) (allW D (N + 1) 0).length) n)
      ((D : Int), (N : Int), termsOf (allW D (N + 1) 0) (tabP (allW D (N + 1) 0) (conv A (expA (ltr n) (sgn n) (N + 1)))) (allW D (N + 1) 0).length) := by
  have hbl := lvlOk_bounds hl
  have hok := allW_ok D (by omega) N
  have h0 := step_l0 hl hA hn hb (allW D (N + 1) 0) [] rfl
  have e1 : tabP (allW D (N + 1) 0) (sumT A (expA (ltr n) (sgn n) (N + 1)) (allW D (N + 1) 0)) = tabP (allW D (N + 1) 0) (conv A (expA (ltr n) (sgn n) (N + 1))) := tabP_congr _ _ _ (fun w hw => by
    have := sumT_all A (expA (ltr n) (sgn n) (N + 1)) D (by omega) w (hok w hw).1 (N + 1) 0
    rw [Nat.zero_min, cv, Int.zero_add] at this
    rw [this]
    unfold conv
    rw [tl_length, Nat.zero_add, Nat.min_eq_right (by have := (hok w hw).2; omega)])
  have e2 : termsOf (allW D (N + 1) 0) (tabP (allW D (N + 1) 0) (sumT A (expA (ltr n) (sgn n) (N + 1)) [])) (allW D (N + 1) 0).length = [] := by
    rw [termsOf_part]
    refine partT_nil _ _ _ _ (fun j _ hj => ?_)
    have hj2 : j < (allW D (N + 1) 0).length := by omega
    rw [tabP_rd _ _ j _ (List.getElem?_eq_getElem hj2), valP_num]
    rfl
  rw [e1, e2, show partT (allW D (N + 1) 0) (tabP (allW D (N + 1) 0) A) 0 ([] : List ByteArray).length = [] from by simp [partT]] at h0
  have e3 : strOfNums [(wrap64 ((wrap64 (48 + (mx n (wrap64 (-n))))) - 1)) % 256] = wbyte (n.natAbs - 1) := by
    rw [wrap_of (-n) (by omega) (by omega)]
    have hm : mx n (-n) = (n.natAbs : Int) := by unfold mx; omega
    rw [hm, wrap_of (48 + (n.natAbs : Int)) (by omega) (by omega), wrap_of _ (by omega) (by omega)]
    unfold wbyte
    congr 2
    omega
  refine Ev.congr (f := fun k => spec_l09Step.j0 k (wbyte (n.natAbs - 1)) (sgn n) (D : Int) (N : Int) (termsOf (allW D (N + 1) 0) (tabP (allW D (N + 1) 0) A) (allW D (N + 1) 0).length) (D : Int) (N : Int) ([] : List S89)) (fun k => ?_) ?_
  · unfold spec_l09Step.f spec_l01Empty.f
    rw [Option.bind_some, Option.bind_some, e3]
    unfold sgn
    by_cases h : n < 0
    · rw [if_pos h, if_neg (by omega)]
    · rw [if_neg h, if_pos (by omega)]
  · exact Ev.step (fun k => by rw [spec_l09Step.j0]; rfl) h0
end
theorem signature_l0 {D N : Nat} (hl : lvlOk (D : Int) (N : Int) = true) (l : List Int) (hm : ∀ x ∈ l, x ≠ 0 ∧ -(D : Int) ≤ x ∧ x ≤ D) (hll : l.length ≤ 12) : ∀ e i (A : List UInt8 → Int), i + e = l.length → (∀ w : List UInt8, w.length ≤ 5 → (A w).natAbs ≤ i ^ w.length) →
    Ev (fun k => spec_l09Signature.l0 k l (i : Int) (D : Int) (N : Int) (termsOf (allW D (N + 1) 0) (tabP (allW D (N + 1) 0) A) (allW D (N + 1) 0).length)) ((D : Int), (N : Int), termsOf (allW D (N + 1) 0) (tabP (allW D (N + 1) 0) (sigA N (l.drop i) A)) (allW D (N + 1) 0).length)
  | 0, i, A, hi, _ => by
    rw [List.drop_of_length_le (by omega)]
    refine Ev.step (f := fun _ => some ((D : Int), (N : Int), termsOf (allW D (N + 1) 0) (tabP (allW D (N + 1) 0) A) (allW D (N + 1) 0).length)) (fun k => ?_) (Ev.now _)
    rw [spec_l09Signature.l0, if_neg (by omega)]
  | e + 1, i, A, hi, hA => by
    have hbl := lvlOk_bounds hl
    have hlt : i < l.length := by omega
    have hok := allW_ok D (by omega) N
    have hcv := fun (w : List UInt8) (hw : w.length ≤ 5) => conv_bound A l[i] N i (by omega) hA w hw
    have ih := signature_l0 hl l hm hll e (i + 1) (conv A (expA (ltr l[i]) (sgn l[i]) (N + 1))) (by omega) (fun w hw => hcv w hw (w.length + 1) (Nat.le_refl _))
    rw [List.drop_eq_getElem_cons hlt]
    have hst := step_f hl (fun v hv => Nat.le_trans (hA v hv) (pow13 i (by omega) v.length hv)) (hm _ (List.getElem_mem hlt)) (fun w hw j hj => by
      have h5 : w.toList.length ≤ 5 := by rw [tl_length]; have := (hok w hw).2; omega
      exact Nat.le_trans (hcv w.toList h5 j (by rw [tl_length]; exact hj)) (Nat.le_trans (pow13 (i + 1) (by omega) _ h5) (by decide)))
    refine Ev.step (f := fun k => (spec_l09Step.f k (D : Int) (N : Int) (termsOf (allW D (N + 1) 0) (tabP (allW D (N + 1) 0) A) (allW D (N + 1) 0).length) l[i]).bind fun (b : Int × Int × List S89) => spec_l09Signature.l0 k l ((i + 1 : Nat) : Int) b.1 b.2.1 b.2.2) (fun k => ?_) ?_
    · rw [spec_l09Signature.l0, if_pos (by omega), if_pos (by omega), rd_nat l i hlt, wrap_nat _ (by omega)]
    · exact Ev.bind (f := fun (k : Nat) (b : Int × Int × List S89) => spec_l09Signature.l0 k l ((i + 1 : Nat) : Int) b.1 b.2.1 b.2.2) hst ih
theorem signature_f {D N : Nat} (hl : lvlOk (D : Int) (N : Int) = true) (l : List Int) (hm : ∀ x ∈ l, x ≠ 0 ∧ -(D : Int) ≤ x ∧ x ≤ D) (hll : l.length ≤ 12) :
    Ev (fun k => spec_l09Signature.f k (D : Int) (N : Int) l) ((D : Int), (N : Int), termsOf (allW D (N + 1) 0) (tabP (allW D (N + 1) 0) (sigA N l unitA)) (allW D (N + 1) 0).length) := by
  have hbl := lvlOk_bounds hl
  have h := signature_l0 hl l hm hll l.length 0 unitA (by omega) (fun w _ => unitA_bound w)
  rw [List.drop_zero] at h
  have e : termsOf (allW D (N + 1) 0) (tabP (allW D (N + 1) 0) unitA) (allW D (N + 1) 0).length = [⟨⟨#[]⟩, ⟨1, 1⟩⟩] := by
    obtain ⟨R, hR, hR2⟩ := allW_two D N (by omega)
    have h0 : (allW D (N + 1) 0)[0]? = some ⟨#[]⟩ := by rw [hR]; rfl
    have hlen := allW_length D N hl
    obtain ⟨q, hq⟩ : ∃ q, (allW D (N + 1) 0).length = 0 + 1 + q := ⟨(allW D (N + 1) 0).length - 1, by omega⟩
    rw [termsOf_part, hq, partT_split, partT_nil _ _ q (0 + 1) (fun j h1 h2 => ?_), tabP_rd _ _ 0 _ h0, rdOf_nat _ 0 (by omega), (List.getElem?_eq_some_iff.1 h0).2]
    · have e0 : (⟨#[]⟩ : ByteArray).toList = [] := by simp [ByteArray.toList_eq]
      have e1 : valP unitA ⟨#[]⟩ = ⟨1, 1⟩ := by
        unfold valP unitA
        rw [e0, if_pos rfl]
        exact frP_one 1
      rw [e1, oneT, if_neg (by decide)]
      simp [partT]
    · have hj : j < (allW D (N + 1) 0).length := by omega
      rw [tabP_rd _ _ j _ (List.getElem?_eq_getElem hj), valP_num]
      unfold unitA
      rw [if_neg (fun e2 => ?_)]
      have e0 : (⟨#[]⟩ : ByteArray).toList = [] := by simp [ByteArray.toList_eq]
      have : (allW D (N + 1) 0)[j] = ⟨#[]⟩ := tl_inj (e2.trans e0.symm)
      have := allW_inj D (by omega) N j 0 ⟨#[]⟩ (List.getElem?_eq_some_iff.2 ⟨hj, this⟩) h0
      omega
  rw [e] at h
  refine Ev.congr (fun k => ?_) h
  unfold spec_l09Signature.f spec_l01One.f
  rw [Option.bind_some]
  rfl
end Go.Proofs.Ytcklefgkbddlhaa.Pure
