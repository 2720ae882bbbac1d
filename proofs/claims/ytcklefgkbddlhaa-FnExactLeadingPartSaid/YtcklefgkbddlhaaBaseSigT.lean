/- Plain lemmas: products of tables, and the exponential of a step, as the program reckons them. -/
import Derived.Test.YtcklefgkbddlhaaBaseSigF
namespace Go.Proofs.Ytcklefgkbddlhaa.Pure
open Go.RowKit Go.Proofs.Ytcklefgkbddlhaa.P Go.Proofs.Ytcklefgkbddlhaa.Tab Go.Proofs.YtcklefgkbddlhaaW.PrintWords Go.Proofs.YtcklefgkbddlhaaW.PrintLast
set_option linter.unusedVariables false
set_option linter.unusedSimpArgs false

theorem bt_get (v : ByteArray) (i : Nat) (h : i < v.toList.length) : bt v (i : Int) = (v.toList[i].toNat : Int) := by
  have hs : i < v.size := by simpa [ByteArray.toList_eq] using h
  unfold bt
  rw [dif_pos (by simpa using hs)]
  simp only [Int.toNat_natCast, ByteArray.toList_eq]
  rfl
theorem tl_length (v : ByteArray) : v.toList.length = v.size := by simp [ByteArray.toList_eq]
theorem tl_inj {v w : ByteArray} (h : v.toList = w.toList) : v = w := by
  rw [ByteArray.toList_eq, ByteArray.toList_eq] at h
  exact ByteArray.ext (Array.toList_inj.1 h)
theorem tl_left (v : ByteArray) (i : Nat) : (v.extract 0 i).toList = v.toList.take i := by
  simp [ByteArray.toList_eq]
theorem tl_right (v : ByteArray) (i : Nat) : (v.extract i v.size).toList = v.toList.drop i := by
  simp only [ByteArray.toList_eq, ByteArray.data_extract, Array.toList_extract, ByteArray.size, List.extract_eq_take_drop]
  rw [List.take_of_length_le (by simp)]
theorem tl_wbyte (c : Nat) : (wbyte c).toList = [UInt8.ofNat (48 + c)] := by
  have hc2 : (48 + (c : Int)).toNat = 48 + c := by omega
  simp [wbyte, strOfNums, ByteArray.toList_eq, hc2]
theorem okW_list {d : Nat} {v : ByteArray} (h : okW d v) (i : Nat) (hi : i < v.toList.length) : 48 ≤ v.toList[i].toNat ∧ v.toList[i].toNat < 48 + d := by
  have := h i (by rw [tl_length] at hi; exact hi)
  rw [bt_get v i hi] at this
  omega
theorem okW_of {d : Nat} {v : ByteArray} (h : ∀ i (hi : i < v.toList.length), 48 ≤ v.toList[i].toNat ∧ v.toList[i].toNat < 48 + d) : okW d v := by
  intro i hi
  have hi2 : i < v.toList.length := by rw [tl_length]; exact hi
  have := h i hi2
  rw [bt_get v i hi2]
  omega
theorem okW_left {d : Nat} {v : ByteArray} (h : okW d v) (i : Nat) : okW d (v.extract 0 i) := by
  refine okW_of (fun j hj => ?_)
  simp only [tl_left]
  rw [List.getElem_take]
  exact okW_list h j (by rw [tl_left, List.length_take] at hj; omega)
theorem okW_right {d : Nat} {v : ByteArray} (h : okW d v) (i : Nat) : okW d (v.extract i v.size) := by
  refine okW_of (fun j hj => ?_)
  simp only [tl_right]
  rw [List.getElem_drop]
  exact okW_list h (i + j) (by rw [tl_right, List.length_drop] at hj; omega)
theorem word_mem (d : Nat) : ∀ q v, okW d v → v.size = q → v ∈ wordsN d q
  | 0, v, _, hs => by
    rw [wordsN, List.mem_singleton]
    exact tl_inj (by rw [List.eq_nil_of_length_eq_zero (show v.toList.length = 0 by rw [tl_length]; exact hs)]; simp [ByteArray.toList_eq])
  | q + 1, v, h, hs => by
    have hl : q < v.toList.length := by rw [tl_length]; omega
    have hb := okW_list h q hl
    have ih := word_mem d q (v.extract 0 q) (okW_left h q) (by rw [← tl_length, tl_left, List.length_take]; omega)
    rw [wordsN, nextW, List.mem_flatMap]
    refine ⟨_, ih, ?_⟩
    have e : v = v.extract 0 q ++ wbyte (0 + (v.toList[q].toNat - 48)) := by
      refine tl_inj ?_
      rw [app_toList, tl_left, tl_wbyte, show 48 + (0 + (v.toList[q].toNat - 48)) = v.toList[q].toNat by omega, UInt8.ofNat_toNat]
      conv => lhs; rw [← List.take_append_drop q v.toList]
      rw [List.drop_eq_getElem_cons hl, List.drop_of_length_le (by rw [tl_length]; omega)]
    have := List.mem_of_getElem? (extFrom_get (v.extract 0 q) d 0 (v.toList[q].toNat - 48) (by omega))
    rw [← e] at this
    exact this
/-- All words up to a length stand at their numbers. -/
def Numbered (D N : Nat) (ws : List ByteArray) : Prop := ∀ v, okW D v → v.size ≤ N → ∃ n, n < ws.length ∧ ws[n]? = some v ∧ Ev (fun k => impl_number.f k (D : Int) v) (n : Int)
theorem numbered (D N : Nat) (hl : lvlOk (D : Int) (N : Int) = true) : Numbered D N (allW D (N + 1) 0) := fun v hv hs => number_word D N v.size hl hs v (word_mem D v.size v hv rfl)
/-- One part of a product: its two values are multiplied and added. -/
theorem part_ev {D : Nat} {w : ByteArray} {j : Nat} (hjn : Ev (fun k => impl_number.f k (D : Int) w) (j : Int)) (vs : List S27) (x y z m s : S27) (hvj : vs[j]? = some z) (hx : okF2 x) (hy : okF2 y) (hz : okF2 z) (hm : timesF x y = m) (hm2 : okF2 m) (hs : plusF z m = s) (hs2 : okF2 s) (bad : Bool) {T : Nat → List S27 → Bool → Option (List S27 × Bool)} {R : List S27 × Bool} (h : Ev (fun k => T k (vs.set j s) bad) R) :
    Ev (fun k => (impl_Fraction_times.f k x.f0 x.f1 y.f0 y.f1).bind fun m => (impl_number.f k (D : Int) w).bind fun j => if 0 ≤ j ∧ j < (vs.length : Int) then
          (impl_Fraction_plus.f k (rd_T27 vs j).f0 (rd_T27 vs j).f1 (sel m.2.2 m.1 0) (sel m.2.2 m.2.1 1)).bind fun s => T k (addV vs j.toNat s.1 s.2.1 s.2.2) ((bad || !m.2.2) || !s.2.2)
        else none) R := by
  have ht := impl_times_f x y hx hy
  rw [hm, show fitF m.f0 m.f1 = true from hm2] at ht
  have hp := impl_plus_f z m hz hm2
  rw [hs, show fitF s.f0 s.f1 = true from hs2] at hp
  obtain ⟨h1, h2⟩ := List.getElem?_eq_some_iff.1 hvj
  have hrd : rd_T27 vs (j : Int) = z := by rw [rdF_nat _ _ h1, h2]
  refine Ev.bind (f := fun (k : Nat) (m : Int × Int × Bool) => (impl_number.f k (D : Int) w).bind fun j => if 0 ≤ j ∧ j < (vs.length : Int) then
          (impl_Fraction_plus.f k (rd_T27 vs j).f0 (rd_T27 vs j).f1 (sel m.2.2 m.1 0) (sel m.2.2 m.2.1 1)).bind fun s => T k (addV vs j.toNat s.1 s.2.1 s.2.2) ((bad || !m.2.2) || !s.2.2)
        else none) ht ?_
  dsimp only
  refine Ev.bind (f := fun (k : Nat) (j : Int) => if 0 ≤ j ∧ j < (vs.length : Int) then
          (impl_Fraction_plus.f k (rd_T27 vs j).f0 (rd_T27 vs j).f1 (sel true m.f0 0) (sel true m.f1 1)).bind fun s => T k (addV vs j.toNat s.1 s.2.1 s.2.2) ((bad || !true) || !s.2.2)
        else none) hjn ?_
  refine Ev.congr (fun k => if_pos ⟨by omega, by omega⟩) ?_
  rw [hrd]
  refine Ev.bind (f := fun (k : Nat) (s : Int × Int × Bool) => T k (addV vs (j : Int).toNat s.1 s.2.1 s.2.2) ((bad || !true) || !s.2.2)) hp ?_
  dsimp only
  rw [Int.toNat_natCast, addV_true, Bool.not_true, Bool.or_false, Bool.or_false]
  exact h
section
variable {D N : Nat} {ws : List ByteArray} (hnum : Numbered D N ws) (hN : N ≤ 5) (hok : ∀ w ∈ ws, okW D w ∧ w.size ≤ N) (hinj : ∀ (i j : Nat) (v : ByteArray), ws[i]? = some v → ws[j]? = some v → i = j)
variable (A B : List UInt8 → Int) (hA : ∀ v : List UInt8, v.length ≤ 5 → (A v).natAbs ≤ 1000000) (hB : ∀ v : List UInt8, v.length ≤ 5 → (B v).natAbs ≤ 1000)
include hnum hN hok hinj hA hB
theorem timesI_ev (w : ByteArray) (j : Nat) (hj : ws[j]? = some w) (hcv : ∀ i, i ≤ w.size + 1 → (cv A B w.toList i).natAbs ≤ 1000000000) (bad : Bool) :
    ∀ e i (vs : List S27), i + e = w.size + 1 → vs.length = ws.length → vs[j]? = some (frP (cv A B w.toList i) (fct w.size)) →
      Ev (fun k => timesI k (D : Int) w (tabP ws A) (tabP ws B) e i vs bad) (vs.set j (frP (conv A B w.toList) (fct w.size)), bad)
  | 0, i, vs, hi, hl, hv => by
    obtain ⟨hlt, e⟩ := List.getElem?_eq_some_iff.1 hv
    have : conv A B w.toList = cv A B w.toList i := by unfold conv; rw [tl_length, show w.size + 1 = i by omega]
    rw [this, ← e, List.set_getElem_self]
    exact Ev.now _
  | e + 1, i, vs, hi, hl, hv => by
    obtain ⟨hw, hs⟩ := hok w (List.mem_of_getElem? hj)
    obtain ⟨hjl, hje⟩ := List.getElem?_eq_some_iff.1 hj
    have hwl := tl_length w
    have il : (w.extract 0 i).size = i := by rw [← tl_length, tl_left, List.length_take]; omega
    have ir : (w.extract i w.size).size = w.size - i := by rw [← tl_length, tl_right, List.length_drop, hwl]
    obtain ⟨p, hp, hpe, hpn⟩ := hnum (w.extract 0 i) (okW_left hw i) (by omega)
    obtain ⟨q, hq, hqe, hqn⟩ := hnum (w.extract i w.size) (okW_right hw i) (by omega)
    have rp' := tabP_rd ws A p _ hpe
    have rq' := tabP_rd ws B q _ hqe
    have va : valP A (w.extract 0 i) = frP (A (w.toList.take i)) (fct i) := by unfold valP; rw [tl_left, il]
    have vb : valP B (w.extract i w.size) = frP (B (w.toList.drop i)) (fct (w.size - i)) := by unfold valP; rw [tl_right, ir]
    have ha := hA (w.toList.take i) (by rw [List.length_take]; omega)
    have hb := hB (w.toList.drop i) (by rw [List.length_drop]; omega)
    have f1 := fct_pos i
    have f2 := fct_pos (w.size - i)
    have f3 := fct_pos w.size
    have g1 := fct_small i (by omega)
    have g2 := fct_small (w.size - i) (by omega)
    have g3 := fct_small w.size (by omega)
    have hc1 := hcv (i + 1) (by omega)
    have hc0 := hcv i (by omega)
    have hbin := bin_fct w.size (by omega) i (by omega)
    have ecv : cv A B w.toList (i + 1) = cv A B w.toList i + (bin w.size i : Int) * (A (w.toList.take i) * B (w.toList.drop i)) := by rw [cv, hwl]
    refine Ev.bind (f := fun k (p : Int) => (impl_number.f k (D : Int) (w.extract i w.size)).bind fun q => if (0 ≤ p ∧ p < ((tabP ws A).length : Int)) ∧ 0 ≤ q ∧ q < ((tabP ws B).length : Int) then
      (if (rd_T27 (tabP ws A) p).f0 = 0 ∨ (rd_T27 (tabP ws B) q).f0 = 0 then timesI k (D : Int) w (tabP ws A) (tabP ws B) e (i + 1) vs bad else
        (impl_Fraction_times.f k (rd_T27 (tabP ws A) p).f0 (rd_T27 (tabP ws A) p).f1 (rd_T27 (tabP ws B) q).f0 (rd_T27 (tabP ws B) q).f1).bind fun m => (impl_number.f k (D : Int) w).bind fun j => if 0 ≤ j ∧ j < (vs.length : Int) then
          (impl_Fraction_plus.f k (rd_T27 vs j).f0 (rd_T27 vs j).f1 (sel m.2.2 m.1 0) (sel m.2.2 m.2.1 1)).bind fun s => timesI k (D : Int) w (tabP ws A) (tabP ws B) e (i + 1) (addV vs j.toNat s.1 s.2.1 s.2.2) ((bad || !m.2.2) || !s.2.2)
        else none) else none) hpn ?_
    refine Ev.bind (f := fun k (q : Int) => if (0 ≤ (p : Int) ∧ (p : Int) < ((tabP ws A).length : Int)) ∧ 0 ≤ q ∧ q < ((tabP ws B).length : Int) then
      (if (rd_T27 (tabP ws A) (p : Int)).f0 = 0 ∨ (rd_T27 (tabP ws B) q).f0 = 0 then timesI k (D : Int) w (tabP ws A) (tabP ws B) e (i + 1) vs bad else
        (impl_Fraction_times.f k (rd_T27 (tabP ws A) (p : Int)).f0 (rd_T27 (tabP ws A) (p : Int)).f1 (rd_T27 (tabP ws B) q).f0 (rd_T27 (tabP ws B) q).f1).bind fun m => (impl_number.f k (D : Int) w).bind fun j => if 0 ≤ j ∧ j < (vs.length : Int) then
          (impl_Fraction_plus.f k (rd_T27 vs j).f0 (rd_T27 vs j).f1 (sel m.2.2 m.1 0) (sel m.2.2 m.2.1 1)).bind fun s => timesI k (D : Int) w (tabP ws A) (tabP ws B) e (i + 1) (addV vs j.toNat s.1 s.2.1 s.2.2) ((bad || !m.2.2) || !s.2.2)
        else none) else none) hqn ?_
    refine Ev.congr (fun k => if_pos ⟨⟨by omega, by rw [tabP_length]; omega⟩, by omega, by rw [tabP_length]; omega⟩) ?_
    rw [rp', rq', va, vb]
    by_cases hz : A (w.toList.take i) = 0 ∨ B (w.toList.drop i) = 0
    · have hz2 : (frP (A (w.toList.take i)) (fct i)).f0 = 0 ∨ (frP (B (w.toList.drop i)) (fct (w.size - i))).f0 = 0 := hz.imp (frP_num _ _ f1).2 (frP_num _ _ f2).2
      have e0 : cv A B w.toList (i + 1) = cv A B w.toList i := by
        rw [ecv]
        rcases hz with h | h <;> rw [h] <;> simp
      refine Ev.congr (fun k => if_pos hz2) ?_
      exact timesI_ev w j hj hcv bad e (i + 1) vs (by omega) hl (by rw [e0]; exact hv)
    · have hz2 : ¬ ((frP (A (w.toList.take i)) (fct i)).f0 = 0 ∨ (frP (B (w.toList.drop i)) (fct (w.size - i))).f0 = 0) := fun h => hz (h.imp (frP_num _ _ f1).1 (frP_num _ _ f2).1)
      refine Ev.congr (fun k => if_neg hz2) ?_
      have ok1 := frP_fit (A (w.toList.take i)) (fct i) f1 (by omega) (by omega)
      have ok2 := frP_fit (B (w.toList.drop i)) (fct (w.size - i)) f2 (by omega) (by omega)
      have hab : (A (w.toList.take i) * B (w.toList.drop i)).natAbs ≤ 1000000000 := by
        rw [Int.natAbs_mul]
        exact Nat.le_trans (Nat.mul_le_mul ha hb) (by decide)
      have hfm : fct i * fct (w.size - i) ≤ 14400 := Nat.mul_le_mul g1 g2
      have hfp : 1 ≤ fct i * fct (w.size - i) := Nat.mul_le_mul f1 f2
      have okt := frP_fit (A (w.toList.take i) * B (w.toList.drop i)) (fct i * fct (w.size - i)) hfp hab (by omega)
      have em : frP (A (w.toList.take i) * B (w.toList.drop i)) (fct i * fct (w.size - i)) = frP ((bin w.size i : Int) * (A (w.toList.take i) * B (w.toList.drop i))) (fct w.size) := by
        refine frP_eq _ _ _ _ hfp f3 ?_
        rw [← hbin, Int.natCast_mul]
        ac_rfl
      obtain ⟨j', hj', hje', hjn⟩ := hnum w hw hs
      obtain rfl := hinj _ _ _ hj hje'
      have := timesI_ev w j hj hcv bad e (i + 1) (vs.set j (frP (cv A B w.toList (i + 1)) (fct w.size))) (by omega) (by rw [List.length_set]; exact hl) (by rw [List.getElem?_set_self (by omega)])
      rw [List.set_set] at this
      exact part_ev hjn vs _ _ _ _ _ hv ok1 ok2 (frP_fit (cv A B w.toList i) (fct w.size) f3 hc0 (by omega)) (frP_times _ _ _ _ f1 f2) okt (by rw [em, frP_plus _ _ _ f3, ← ecv]) (frP_fit _ _ f3 hc1 (by omega)) bad (T := fun k v b => timesI k (D : Int) w (tabP ws A) (tabP ws B) e (i + 1) v b) this
theorem timesO_ev (hcv : ∀ w ∈ ws, ∀ i, i ≤ w.size + 1 → (cv A B w.toList i).natAbs ≤ 1000000000) (bad : Bool) : ∀ (l pre : List ByteArray), pre ++ l = ws →
    Ev (fun k => timesO k (D : Int) (tabP ws A) (tabP ws B) l (tabP pre (conv A B) ++ List.replicate l.length ⟨0, 1⟩) bad) (tabP ws (conv A B), bad)
  | [], pre, h => by
    rw [List.append_nil] at h
    rw [List.length_nil, List.replicate_zero, List.append_nil, h]
    exact Ev.now _
  | w :: l, pre, h => by
    have hj : ws[pre.length]? = some w := by rw [← h]; simp
    have hw : w ∈ ws := List.mem_of_getElem? hj
    have ih := timesO_ev hcv bad l (pre ++ [w]) (by rw [← h]; simp)
    have hI := timesI_ev hnum hN hok hinj A B hA hB w pre.length hj (hcv w hw) bad (w.size + 1) 0 (tabP pre (conv A B) ++ List.replicate (w :: l).length ⟨0, 1⟩) (by omega) (by rw [← h]; simp [tabP_length]) (by
      rw [List.getElem?_append_right (by rw [tabP_length]; omega), tabP_length, Nat.sub_self, cv, frP_zero _ (fct_pos _)]
      simp)
    refine Ev.bind (f := fun k r => timesO k (D : Int) (tabP ws A) (tabP ws B) l r.1 r.2) hI ?_
    dsimp only
    rw [List.length_cons, List.replicate_succ, set_mid _ _ _ _ pre.length (tabP_length _ _)]
    have e : tabP pre (conv A B) ++ frP (conv A B w.toList) (fct w.size) :: List.replicate l.length ⟨0, 1⟩ = tabP (pre ++ [w]) (conv A B) ++ List.replicate l.length ⟨0, 1⟩ := by
      simp [tabP, valP]
    rw [e]
    exact ih
end
theorem tabP_congr (ws : List ByteArray) (A B : List UInt8 → Int) (h : ∀ w ∈ ws, A w.toList = B w.toList) : tabP ws A = tabP ws B := by
  unfold tabP valP
  exact List.map_congr_left (fun w hw => by rw [h w hw])
end Go.Proofs.Ytcklefgkbddlhaa.Pure
