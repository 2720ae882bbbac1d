/- Plain lemmas: maps, the number of a word in what a map leads another one to, and multiples of fractions. -/
import Derived.Test.YtcklefgkbddlhaaPx5
import Derived.Test.YtcklefgkbddlhaaPx14
import Derived.Test.YtcklefgkbddlhaaPx8
import Derived.Test.YtcklefgkbddlhaaPx17
import Derived.Test.YtcklefgkbddlhaaBaseTm
namespace Go.Proofs.Ytcklefgkbddlhaa.Pure
open Go.RowKit Go.Proofs.Ytcklefgkbddlhaa.P Go.Proofs.YtcklefgkbddlhaaW.PrintWords Go.Proofs.YtcklefgkbddlhaaW.PrintLast
set_option linter.unusedVariables false
set_option linter.unusedSimpArgs false

theorem rdR_nat (l : List (List Int)) (i : Nat) (h : i < l.length) : rd_L6 l (i : Int) = l[i] := by simp [rd_L6, List.getD_eq_getElem?_getD, h]
/-- A row of a map. -/
def okStep (d : Int) (r : List Int) : Bool := decide ((r.length : Int) = d) && r.all fun n => decide (-100 ≤ n) && decide (n ≤ 100)
def isMap (d e : Int) (rows : List (List Int)) : Bool := ((decide (1 ≤ d) && decide (d ≤ 3)) && (decide (1 ≤ e) && decide (e ≤ 3))) && (decide ((rows.length : Int) = d) && rows.all (okStep e))
theorem impl_isMap_f (d e : Int) (rows : List (List Int)) : impl_IsMap.f d e rows = some (isMap d e rows) := by
  unfold impl_IsMap.f isMap
  rw [Bool.and_assoc (_ && _) (decide ((rows.length : Int) = d))]
  congr 3
  rw [Bool.eq_iff_iff]
  simp only [Bool.not_eq_true', List.any_eq_false, List.all_eq_true, okStep, Bool.or_eq_true, Bool.and_eq_true, decide_eq_true_eq, not_or, Hand.upToB, Bool.not_not, Decidable.not_not]
  refine ⟨fun h r hr => ?_, fun h r hr => ?_⟩
  · obtain ⟨h1, h2⟩ := h r hr
    refine ⟨by simpa using h1, fun n hn => ?_⟩
    have h3 := h2
    simp only [Bool.not_eq_true, List.any_eq_false, List.any_eq_true, not_exists, not_and] at h3
    have h4 := h3 n hn
    simpa [wrap64] using h4
  · obtain ⟨h1, h2⟩ := h r hr
    refine ⟨by simpa using h1, ?_⟩
    simp only [Bool.not_eq_true, List.any_eq_false, List.any_eq_true, not_exists, not_and]
    intro n hn
    have := h2 n hn
    simpa [wrap64] using this
theorem is_l1 (e : Int) (rows : List (List Int)) (hn : rows.length ≤ 3) (i : Nat) (hi : i < rows.length) (hl : rows[i].length ≤ 3) {R : Bool} (h : Ev (fun k => spec_l07Is.l0 k e rows ((i + 1 : Nat) : Int)) R) :
    ∀ m j, j + m = rows[i].length → Ev (fun k => spec_l07Is.l1 k e rows (i : Int) (j : Int)) (if (rows[i].drop j).all (fun n => decide (-100 ≤ n) && decide (n ≤ 100)) = true then R else false)
  | 0, j, hj => by
    rw [List.drop_of_length_le (by omega), if_pos (by simp)]
    refine Ev.step (fun k => ?_) h
    rw [spec_l07Is.l1, if_pos (by omega), if_pos (by omega), rdR_nat rows i hi, if_neg (by omega), wrap_nat _ (by omega)]
  | m + 1, j, hj => by
    have ih := is_l1 e rows hn i hi hl h m (j + 1) (by omega)
    have hjl : j < rows[i].length := by omega
    rw [List.drop_eq_getElem_cons hjl, List.all_cons]
    cases hb : (decide (-100 ≤ rows[i][j]) && decide (rows[i][j] ≤ 100)) with
    | true =>
      rw [Bool.true_and]
      refine Ev.step (fun k => ?_) ih
      rw [spec_l07Is.l1, if_pos (by omega), if_pos (by omega), rdR_nat rows i hi, if_pos (by omega), if_pos (by omega), rd_nat _ j hjl, spec_in_f, Option.bind_some, hb, if_pos rfl, wrap_nat _ (by omega)]
    | false =>
      rw [Bool.false_and, if_neg (by simp)]
      refine Ev.step (f := fun _ => some false) (fun k => ?_) (Ev.now _)
      rw [spec_l07Is.l1, if_pos (by omega), if_pos (by omega), rdR_nat rows i hi, if_pos (by omega), if_pos (by omega), rd_nat _ j hjl, spec_in_f, Option.bind_some, hb, if_neg (by simp)]
theorem is_l0 (e : Int) (he : e ≤ 3) (rows : List (List Int)) (hn : rows.length ≤ 3) : ∀ m i, i + m = rows.length → Ev (fun k => spec_l07Is.l0 k e rows (i : Int)) ((rows.drop i).all (okStep e))
  | 0, i, hi => by
    rw [List.drop_of_length_le (by omega)]
    refine Ev.step (f := fun _ => some true) (fun k => ?_) (Ev.now _)
    rw [spec_l07Is.l0, if_neg (by omega)]
  | m + 1, i, hi => by
    have hlt : i < rows.length := by omega
    rw [List.drop_eq_getElem_cons hlt, List.all_cons, show okStep e rows[i] = (decide ((rows[i].length : Int) = e) && rows[i].all fun n => decide (-100 ≤ n) && decide (n ≤ 100)) from rfl]
    by_cases hl : (rows[i].length : Int) = e
    · have h1 := is_l1 e rows hn i hlt (by omega) (is_l0 e he rows hn m (i + 1) (by omega)) rows[i].length 0 (by omega)
      rw [List.drop_zero] at h1
      rw [decide_eq_true hl, Bool.true_and]
      refine Ev.step (f := fun k => spec_l07Is.l1 k e rows (i : Int) ((0 : Nat) : Int)) (fun k => ?_) ?_
      · rw [spec_l07Is.l0, if_pos (by omega), if_pos (by omega), rdR_nat rows i hlt, if_pos hl]; rfl
      · cases hb : rows[i].all (fun n => decide (-100 ≤ n) && decide (n ≤ 100)) with
        | true => rw [hb, if_pos rfl] at h1; exact h1
        | false => rw [hb, if_neg (by simp)] at h1; exact h1
    · rw [decide_eq_false hl, Bool.false_and, Bool.false_and]
      refine Ev.step (f := fun _ => some false) (fun k => ?_) (Ev.now _)
      rw [spec_l07Is.l0, if_pos (by omega), if_pos (by omega), rdR_nat rows i hlt, if_neg hl]
theorem spec_isMap_f (d e : Int) (rows : List (List Int)) : Ev (fun k => spec_l07Is.f k d e rows) (isMap d e rows) := by
  unfold isMap
  by_cases hd : (decide (1 ≤ d) && decide (d ≤ 3)) = true
  · by_cases he : (decide (1 ≤ e) && decide (e ≤ 3)) = true
    · rw [hd, he, Bool.true_and, Bool.true_and]
      simp only [Bool.and_eq_true, decide_eq_true_eq] at hd he
      by_cases hl : (rows.length : Int) = d
      · rw [decide_eq_true hl, Bool.true_and]
        have h := is_l0 e he.2 rows (by omega) rows.length 0 (by omega)
        rw [List.drop_zero] at h
        refine Ev.congr (f := fun k => spec_l07Is.j0 k e rows false) (fun k => ?_) (Ev.step (fun k => ?_) h)
        · unfold spec_l07Is.f
          rw [spec_in_f, Option.bind_some, if_pos (by simpa using hd), spec_in_f, Option.bind_some, if_pos (by simpa using he), show ((rows.length : Int) != d) = false from by simp [hl]]
        · rw [spec_l07Is.j0, if_neg (by simp)]; rfl
      · rw [decide_eq_false hl, Bool.false_and]
        refine Ev.congr (f := fun k => spec_l07Is.j0 k e rows true) (fun k => ?_) (Ev.step (f := fun _ => some false) (fun k => ?_) (Ev.now _))
        · unfold spec_l07Is.f
          rw [spec_in_f, Option.bind_some, if_pos (by simpa using hd), spec_in_f, Option.bind_some, if_pos (by simpa using he), show ((rows.length : Int) != d) = true from by simpa using hl]
        · rw [spec_l07Is.j0, if_pos rfl]
    · have he2 : (decide (1 ≤ e) && decide (e ≤ 3)) = false := by simpa using he
      rw [he2, Bool.and_false, Bool.false_and]
      refine Ev.congr (f := fun k => spec_l07Is.j0 k e rows true) (fun k => ?_) (Ev.step (f := fun _ => some false) (fun k => ?_) (Ev.now _))
      · unfold spec_l07Is.f
        rw [spec_in_f, Option.bind_some, if_pos hd, spec_in_f, Option.bind_some, he2, if_neg (by simp)]
      · rw [spec_l07Is.j0, if_pos rfl]
  · have hd2 : (decide (1 ≤ d) && decide (d ≤ 3)) = false := by simpa using hd
    rw [hd2, Bool.false_and, Bool.false_and]
    refine Ev.congr (f := fun k => spec_l07Is.j0 k e rows true) (fun k => ?_) (Ev.step (f := fun _ => some false) (fun k => ?_) (Ev.now _))
    · unfold spec_l07Is.f
      rw [spec_in_f, Option.bind_some, hd2, if_neg (by simp)]
    · rw [spec_l07Is.j0, if_pos rfl]
theorem isMap_bounds {d e : Int} {rows : List (List Int)} (h : isMap d e rows = true) : 1 ≤ d ∧ d ≤ 3 ∧ 1 ≤ e ∧ e ≤ 3 ∧ (rows.length : Int) = d ∧ ∀ r ∈ rows, (r.length : Int) = e ∧ ∀ n ∈ r, -100 ≤ n ∧ n ≤ 100 := by
  unfold isMap at h
  simp only [Bool.and_eq_true, decide_eq_true_eq, List.all_eq_true, okStep] at h
  exact ⟨h.1.1.1, h.1.1.2, h.1.2.1, h.1.2.2, h.2.1, fun r hr => h.2.2 r hr⟩
/-- The product of the numbers that lead from one word to another one. -/
def facP (rows : List (List Int)) (w v : ByteArray) : Nat → Nat → Int → Int
  | 0, _, acc => acc
  | m + 1, i, acc => facP rows w v m (i + 1) (acc * rd (rd_L6 rows (bt w i - 48)) (bt v i - 48))
theorem pow_wrap (i : Nat) (x : Int) (hi : i ≤ 5) (hx : x.natAbs ≤ 100 ^ i) : wrap64 x = x := by
  have : 100 ^ i ≤ 10000000000 := Nat.le_trans (Nat.pow_le_pow_right (by omega) hi) (by decide)
  exact wrap_of _ (by omega) (by omega)
section
variable {D E : Nat} {rows : List (List Int)} (hm : isMap (D : Int) (E : Int) rows = true) {w v : ByteArray} (hw : okW D w) (hv : okW E v) (hs : v.size = w.size)
include hm hw hv hs
theorem fac_entry (i : Nat) (hi : i < w.size) : 0 ≤ bt w i - 48 ∧ bt w i - 48 < (rows.length : Int) ∧ 0 ≤ bt v i - 48 ∧ bt v i - 48 < ((rd_L6 rows (bt w i - 48)).length : Int) ∧ (bt w i - 48) % 256 = bt w i - 48 ∧ (bt v i - 48) % 256 = bt v i - 48 ∧ (rd (rd_L6 rows (bt w i - 48)) (bt v i - 48)).natAbs ≤ 100 := by
  obtain ⟨h1, h2, h3, h4, h6, h7⟩ := isMap_bounds hm
  have a := hw i hi
  have b := hv i (by omega)
  obtain ⟨p, hp⟩ : ∃ p : Nat, bt w i - 48 = (p : Int) := ⟨(bt w i - 48).toNat, by omega⟩
  obtain ⟨q, hq⟩ : ∃ q : Nat, bt v i - 48 = (q : Int) := ⟨(bt v i - 48).toNat, by omega⟩
  have hpl : p < rows.length := by omega
  have hr := h7 _ (List.getElem_mem hpl)
  have hql : q < rows[p].length := by omega
  have hn := hr.2 _ (List.getElem_mem hql)
  rw [hp, hq, rdR_nat rows p hpl, rd_nat _ q hql]
  omega
theorem acc_step (m i : Nat) (acc : Int) (hi : i + (m + 1) = w.size) (ha : acc.natAbs ≤ 100 ^ i) : (acc * rd (rd_L6 rows (bt w i - 48)) (bt v i - 48)).natAbs ≤ 100 ^ (i + 1) := by
  have h := (fac_entry hm hw hv hs i (by omega)).2.2.2.2.2.2
  rw [Int.natAbs_mul, Nat.pow_succ]
  exact Nat.mul_le_mul ha h
variable (h5 : w.size ≤ 5)
include h5
theorem facP_small : ∀ m i acc, i + m = w.size → acc.natAbs ≤ 100 ^ i → (facP rows w v m i acc).natAbs ≤ 10000000000
  | 0, i, acc, hi, ha => Nat.le_trans ha (Nat.le_trans (Nat.pow_le_pow_right (by omega) (by omega : i ≤ 5)) (by decide))
  | m + 1, i, acc, hi, ha => facP_small m (i + 1) _ (by omega) (acc_step hm hw hv hs m i acc hi ha)
theorem spec_fac_l0 : ∀ m i acc, i + m = w.size → acc.natAbs ≤ 100 ^ i → Ev (fun k => spec_l07Factor.l0 k rows w v acc (i : Int)) (facP rows w v m i acc)
  | 0, i, acc, hi, _ => by
    refine Ev.step (f := fun _ => some acc) (fun k => ?_) (Ev.now _)
    rw [spec_l07Factor.l0, if_neg (by omega)]
  | m + 1, i, acc, hi, ha => by
    obtain ⟨e1, e2, e3, e4, e5, e6, _⟩ := fac_entry hm hw hv hs i (by omega)
    have hs1 := acc_step hm hw hv hs m i acc hi ha
    refine Ev.step (fun k => ?_) (spec_fac_l0 m (i + 1) _ (by omega) hs1)
    rw [spec_l07Factor.l0, e5, e6, if_pos (by omega), if_pos (by omega), if_pos e1, if_pos e2, if_pos (by omega), if_pos e3, if_pos e4, wrap_nat _ (by omega), pow_wrap (i + 1) _ (by omega) hs1]
theorem impl_fac_l0 : ∀ m i acc, i + m = w.size → acc.natAbs ≤ 100 ^ i → Ev (fun k => impl_ledTo.l0 k rows w v acc (w.size : Int) (i : Int)) (facP rows w v m i acc)
  | 0, i, acc, hi, _ => by
    refine Ev.step (f := fun _ => some acc) (fun k => ?_) (Ev.now _)
    rw [impl_ledTo.l0, if_neg (by omega)]
  | m + 1, i, acc, hi, ha => by
    obtain ⟨e1, e2, e3, e4, e5, e6, _⟩ := fac_entry hm hw hv hs i (by omega)
    have hs1 := acc_step hm hw hv hs m i acc hi ha
    refine Ev.step (fun k => ?_) (impl_fac_l0 m (i + 1) _ (by omega) hs1)
    rw [impl_ledTo.l0, e5, e6, if_pos (by omega), if_pos (by omega), if_pos (by omega), if_pos e1, if_pos e2, if_pos (by omega), if_pos e3, if_pos e4, wrap_nat _ (by omega), pow_wrap (i + 1) _ (by omega) hs1]
theorem spec_fac_f : Ev (fun k => spec_l07Factor.f k rows w v) (facP rows w v w.size 0 1) := spec_fac_l0 hm hw hv hs h5 w.size 0 1 (by omega) (by decide)
theorem impl_fac_f : Ev (fun k => impl_ledTo.f k rows w v) (facP rows w v w.size 0 1) := impl_fac_l0 hm hw hv hs h5 w.size 0 1 (by omega) (by decide)
theorem fac_small : (facP rows w v w.size 0 1).natAbs ≤ 10000000000 := facP_small hm hw hv hs h5 w.size 0 1 (by omega) (by decide)
end
/-- A multiple of a fraction, and whether it fits. -/
def scP (x : S27) (p : Int) : S27 × Bool :=
  if (Int.tdiv p (Int.gcd p x.f1)).natAbs ≤ 1000000000 then
    (⟨(redF (x.f0 * Int.tdiv p (Int.gcd p x.f1)) (Int.tdiv x.f1 (Int.gcd p x.f1))).1, (redF (x.f0 * Int.tdiv p (Int.gcd p x.f1)) (Int.tdiv x.f1 (Int.gcd p x.f1))).2⟩, fitF (redF (x.f0 * Int.tdiv p (Int.gcd p x.f1)) (Int.tdiv x.f1 (Int.gcd p x.f1))).1 (redF (x.f0 * Int.tdiv p (Int.gcd p x.f1)) (Int.tdiv x.f1 (Int.gcd p x.f1))).2)
  else (⟨0, 1⟩, false)
theorem sc_parts (x : S27) (p : Int) (hx : okF2 x) (hp0 : p ≠ 0) (hp : p.natAbs ≤ 10000000000) : ((Int.gcd p x.f1 : Nat) : Int) ≠ 0 ∧ (Int.tdiv p (Int.gcd p x.f1)).natAbs ≤ 10000000000 ∧ 1 ≤ Int.tdiv x.f1 (Int.gcd p x.f1) ∧ (Int.tdiv x.f1 (Int.gcd p x.f1)).natAbs ≤ 1000000000 := by
  have hb := fitF_bounds hx
  obtain ⟨g, hg⟩ : ∃ g : Int, ((Int.gcd p x.f1 : Nat) : Int) = g := ⟨_, rfl⟩
  have hg1 : 1 ≤ g := by
    have : Int.gcd p x.f1 ≠ 0 := fun e => hp0 (Int.gcd_eq_zero_iff.1 e).1
    omega
  obtain ⟨q, hq⟩ : g ∣ x.f1 := hg ▸ Int.gcd_dvd_right p x.f1
  have hdq : Int.tdiv x.f1 g = q := by rw [hq, Int.mul_tdiv_cancel_left _ (by omega)]
  rw [hg]
  refine ⟨by omega, ?_, ?_, ?_⟩
  · rw [Int.natAbs_tdiv]; exact Nat.le_trans (Nat.div_le_self _ _) hp
  · rw [hdq]
    by_cases h1 : 1 ≤ q
    · exact h1
    · have := Int.mul_le_mul_of_nonneg_left (show q ≤ 0 by omega) (show 0 ≤ g by omega)
      omega
  · rw [Int.natAbs_tdiv]; exact Nat.le_trans (Nat.div_le_self _ _) (by omega)
theorem impl_sc_f (x : S27) (p : Int) (hx : okF2 x) (h0 : x.f0 ≠ 0) (hp0 : p ≠ 0) (hp : p.natAbs ≤ 10000000000) : Ev (fun k => impl_Fraction_timesWhole.f k x.f0 x.f1 p) ((scP x p).1.f0, (scP x p).1.f1, (scP x p).2) := by
  have hb := fitF_bounds hx
  obtain ⟨e1, e2, e3, e4⟩ := sc_parts x p hx hp0 hp
  have hc := impl_common_f p x.f1 (by omega) (by omega)
  refine Ev.step (f := fun k => (impl_common.f k p x.f1).bind fun t370 => (if t370 = 0 then (none) else ((impl_upTo.f (wrap64 (Int.tdiv p t370)) 1000000000).bind fun t371 => (if t371 = true then ((impl_reduced.f k (wrap64 (x.f0 * (wrap64 (Int.tdiv p t370)))) (wrap64 (Int.tdiv x.f1 t370))).bind fun bt372 => (some (bt372.1, bt372.2.1, bt372.2.2))) else ((impl_zero.f).bind fun bt375 => (some (bt375.1, bt375.2, false))))))) (fun k => ?_) ?_
  · unfold impl_Fraction_timesWhole.f
    rw [if_neg hp0, show (x.f0 == 0) = false by simpa using h0]
    rfl
  refine Ev.bind (f := fun k t370 => (if t370 = 0 then (none) else ((impl_upTo.f (wrap64 (Int.tdiv p t370)) 1000000000).bind fun t371 => (if t371 = true then ((impl_reduced.f k (wrap64 (x.f0 * (wrap64 (Int.tdiv p t370)))) (wrap64 (Int.tdiv x.f1 t370))).bind fun bt372 => (some (bt372.1, bt372.2.1, bt372.2.2))) else ((impl_zero.f).bind fun bt375 => (some (bt375.1, bt375.2, false))))))) hc ?_
  unfold scP
  generalize Int.tdiv p (Int.gcd p x.f1) = q at e2 ⊢
  generalize Int.tdiv x.f1 (Int.gcd p x.f1) = r at e3 e4 ⊢
  by_cases hq : q.natAbs ≤ 1000000000
  · rw [if_pos hq]
    have hb2 := mul_b hb.2.2.1 hb.2.2.2 (show -1000000000 ≤ q by omega) (show q ≤ 1000000000 by omega)
    have hr := impl_red_f (x.f0 * q) r (by omega) e3 (by omega)
    refine Ev.congr (fun k => ?_) (Ev.bind (f := fun _ bt => some (bt.1, bt.2.1, bt.2.2)) hr (Ev.now _))
    rw [if_neg e1, wrap_of q (by omega) (by omega), wrap_of r (by omega) (by omega), impl_upTo_f _ _ (by omega) (by omega), Option.bind_some, if_pos (by simp only [Bool.and_eq_true, decide_eq_true_eq]; omega), wrap_of (x.f0 * q) (by omega) (by omega)]
  · rw [if_neg hq]
    refine Ev.congr (fun k => ?_) (Ev.now _)
    rw [if_neg e1, wrap_of q (by omega) (by omega), impl_upTo_f _ _ (by omega) (by omega), Option.bind_some, if_neg (by simp only [Bool.and_eq_true, decide_eq_true_eq]; omega)]
    rfl
end Go.Proofs.Ytcklefgkbddlhaa.Pure
