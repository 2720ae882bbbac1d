/- Plain lemmas and contracts of this session, of which the parts' own heads tell. -/
import Derived.Test.YtcklefgkbddlhaaBaseX
import Derived.Test.YtcklefgkbddlhaaTabX
import Derived.Test.YtcklefgkbddlhaaTabW
import Derived.Test.YtcklefgkbddlhaaPx16
import Derived.Test.YtcklefgkbddlhaaPx12
import Derived.Test.YtcklefgkbddlhaaPx8
/- Plain lemmas: the terms of a table, and a fraction put at a word. -/
namespace Go.Proofs.Ytcklefgkbddlhaa.Pure
open Go.RowKit Go.Proofs.Ytcklefgkbddlhaa.P Go.Proofs.Ytcklefgkbddlhaa.Tab Go.Proofs.YtcklefgkbddlhaaW.PrintWords Go.Proofs.YtcklefgkbddlhaaW.PrintLast
set_option linter.unusedVariables false
set_option linter.unusedSimpArgs false

/-- All values are fractions. -/
def okV (vs : List S27) : Prop := ∀ x ∈ vs, okF2 x
def partT (ws : List ByteArray) (vs : List S27) (i e : Nat) : List S89 := (List.range' i e).flatMap fun (j : Nat) => oneT (rdOf ByteArray.empty ws (j : Int)) (rd_T27 vs (j : Int))
theorem termsOf_part (ws : List ByteArray) (vs : List S27) (m : Nat) : termsOf ws vs m = partT ws vs 0 m := by
  unfold termsOf partT
  rw [List.range_eq_range']
  rfl
theorem partT_split (ws : List ByteArray) (vs : List S27) (n e : Nat) : partT ws vs 0 (n + 1 + e) = partT ws vs 0 n ++ oneT (rdOf ByteArray.empty ws (n : Int)) (rd_T27 vs (n : Int)) ++ partT ws vs (n + 1) e := by
  unfold partT
  rw [← List.range'_append_1, List.flatMap_append, Nat.zero_add, ← List.range'_append_1, List.flatMap_append, Nat.zero_add]
  simp
theorem partT_length (ws : List ByteArray) (vs : List S27) : ∀ e i, (partT ws vs i e).length ≤ e
  | 0, i => by simp [partT]
  | e + 1, i => by
    have ih := partT_length ws vs e (i + 1)
    have h1 := oneT_length (rdOf ByteArray.empty ws (i : Int)) (rd_T27 vs (i : Int))
    unfold partT at ih ⊢
    rw [List.range'_succ, List.flatMap_cons, List.length_append]
    omega
theorem partT_set (ws : List ByteArray) (vs : List S27) (n : Nat) (x : S27) : ∀ e i, (∀ j, i ≤ j → j < i + e → j ≠ n) → partT ws (vs.set n x) i e = partT ws vs i e
  | 0, i, _ => by simp [partT]
  | e + 1, i, h => by
    have ih := partT_set ws vs n x e (i + 1) (fun j h1 h2 => h j (by omega) (by omega))
    unfold partT at ih ⊢
    rw [List.range'_succ, List.flatMap_cons, List.flatMap_cons, ih]
    have e1 : rd_T27 (vs.set n x) (i : Int) = rd_T27 vs (i : Int) := by
      have := h i (by omega) (by omega)
      simp [rd_T27, List.getElem?_set, Ne.symm this]
    rw [e1]
theorem partT_mem (ws : List ByteArray) (vs : List S27) (t : S89) : ∀ e i, t ∈ partT ws vs i e → ∃ j, i ≤ j ∧ j < i + e ∧ t.f0 = rdOf ByteArray.empty ws (j : Int)
  | 0, i, h => by simp [partT] at h
  | e + 1, i, h => by
    unfold partT at h
    rw [List.range'_succ, List.flatMap_cons, List.mem_append] at h
    rcases h with h | h
    · refine ⟨i, by omega, by omega, ?_⟩
      unfold oneT at h
      split at h
      · cases h
      · rw [List.mem_singleton.1 h]
    · obtain ⟨j, h1, h2, h3⟩ := partT_mem ws vs t e (i + 1) h
      exact ⟨j, by omega, by omega, h3⟩
theorem plusF_new (a : S27) (ha : okF2 a) : plusF ⟨0, 1⟩ a = a := by
  have hb := fitF_bounds ha
  have hg : Int.gcd a.f0 a.f1 = 1 := by
    have := ha
    unfold okF2 fitF at this
    simp only [Bool.and_eq_true, decide_eq_true_eq] at this
    exact this.2.2
  unfold plusF redF
  simp [hg]
theorem ok_zero (x : S27) (h : okF2 x) (hz : x.f0 = 0) : x = ⟨0, 1⟩ := by
  unfold okF2 fitF at h
  simp only [Bool.and_eq_true, decide_eq_true_eq] at h
  have h1 := h.1.1
  have h2 := h.2.2
  rw [hz] at h2
  obtain ⟨x0, x1⟩ := x
  simp at hz h1 h2
  subst hz
  congr 1
  omega
/-- A fraction put into the terms of a table. -/
theorem put_table (ws : List ByteArray) (hws : ws.length ≤ 1000) (hasc : ws.Pairwise (fun v w => befW v w = true)) (vs : List S27) (hl : vs.length = ws.length) (hok : okV vs) (n : Nat) (hn : n < ws.length) (a : S27) (ha : okF2 a) :
    Ev (fun k => spec_l01Put.f k (termsOf ws vs ws.length) ws[n] a.f0 a.f1) (if fitF (plusF (rd_T27 vs (n : Int)) a).f0 (plusF (rd_T27 vs (n : Int)) a).f1 = true then (termsOf ws (vs.set n (plusF (rd_T27 vs (n : Int)) a)) ws.length, true) else ([], false)) := by
  have hr : ∀ j (h : j < ws.length), rdOf ByteArray.empty ws (j : Int) = ws[j] := fun j h => by simp [rdOf, h]
  have hlt := List.pairwise_iff_getElem.1 hasc
  have hv : rd_T27 vs (n : Int) = vs[n]'(by omega) := by
    have : n < vs.length := by omega
    simp [rd_T27, this]
  have hokn : okF2 (rd_T27 vs (n : Int)) := by rw [hv]; exact hok _ (List.getElem_mem _)
  obtain ⟨e, he⟩ : ∃ e, ws.length = n + 1 + e := ⟨ws.length - (n + 1), by omega⟩
  have hset : ∀ x : S27, rd_T27 (vs.set n x) (n : Int) = x := fun x => by
    have : n < vs.length := by omega
    simp [rd_T27, this]
  have e1 : termsOf ws vs ws.length = partT ws vs 0 n ++ oneT ws[n] (rd_T27 vs (n : Int)) ++ partT ws vs (n + 1) e := by
    rw [termsOf_part, he, partT_split, hr n hn]
  have e2 : ∀ x, termsOf ws (vs.set n x) ws.length = partT ws vs 0 n ++ oneT ws[n] x ++ partT ws vs (n + 1) e := fun x => by
    rw [termsOf_part, he, partT_split, hr n hn, hset, partT_set ws vs n x n 0 (fun j _ h => by omega), partT_set ws vs n x e (n + 1) (fun j h _ => by omega)]
  have hT1 := partT_length ws vs n 0
  have hT2 := partT_length ws vs e (n + 1)
  have hb : ∀ t ∈ partT ws vs 0 n, befW t.f0 ws[n] = true := fun t ht => by
    obtain ⟨j, _, h2, h3⟩ := partT_mem ws vs t n 0 ht
    rw [h3, hr j (by omega)]
    exact hlt j n (by omega) hn (by omega)
  have ha2 : ∀ t ∈ partT ws vs (n + 1) e, befW t.f0 ws[n] = false ∧ t.f0.toList ≠ ws[n].toList := fun t ht => by
    obtain ⟨j, h1, h2, h3⟩ := partT_mem ws vs t e (n + 1) ht
    rw [h3, hr j (by omega)]
    exact bef_asym _ _ (hlt n j hn (by omega) (by omega))
  by_cases hz : (rd_T27 vs (n : Int)).f0 = 0
  · have hz0 := ok_zero _ hokn hz
    rw [e1, oneT, if_pos hz, List.append_nil, hz0, plusF_new a ha, if_pos (show fitF a.f0 a.f1 = true from ha), e2]
    exact put_new _ _ _ a (by omega) (by omega) hb ha2
  · rw [e1, show oneT ws[n] (rd_T27 vs (n : Int)) = [⟨ws[n], rd_T27 vs (n : Int)⟩] from by rw [oneT, if_neg hz], e2, List.append_assoc, List.singleton_append]
    exact put_old _ _ _ a _ (by omega) (by omega) hb (bef_irr _) ha hokn
theorem redF_parts (a n : Int) (hn : 1 ≤ n) : ∃ g, 1 ≤ g ∧ a = g * (redF a n).1 ∧ n = g * (redF a n).2 ∧ 1 ≤ (redF a n).2 ∧ Int.gcd (redF a n).1 (redF a n).2 = 1 := by
  have h0 := gcd_ne (a := a) hn
  have hg : 1 ≤ ((Int.gcd a n : Nat) : Int) := by omega
  have e1 : a = ((Int.gcd a n : Nat) : Int) * (redF a n).1 := (Int.mul_tdiv_cancel' (Int.gcd_dvd_left a n)).symm
  have e2 : n = ((Int.gcd a n : Nat) : Int) * (redF a n).2 := (Int.mul_tdiv_cancel' (Int.gcd_dvd_right a n)).symm
  refine ⟨_, hg, e1, e2, ?_, ?_⟩
  · generalize (redF a n).2 = y at e2
    generalize ((Int.gcd a n : Nat) : Int) = g at hg e2
    by_cases h : 1 ≤ y
    · exact h
    · have := Int.mul_le_mul_of_nonneg_left (show y ≤ 0 by omega) (show 0 ≤ g by omega)
      omega
  · have h1 : Int.gcd a n = ((Int.gcd a n : Nat) : Int).natAbs * Int.gcd (redF a n).1 (redF a n).2 := by
      refine Eq.trans ?_ (Int.gcd_mul_left _ _ _)
      rw [← e1, ← e2]
    rw [Int.natAbs_natCast] at h1
    exact Nat.eq_of_mul_eq_mul_left (show 0 < Int.gcd a n by omega) (by rw [← h1, Nat.mul_one])
theorem redF_eq (a n b m : Int) (hn : 1 ≤ n) (hm : 1 ≤ m) (h : a * m = b * n) : redF a n = redF b m := by
  rw [← redF_scale m a n (by omega), ← redF_scale n b m (by omega), Int.mul_comm m a, h, Int.mul_comm n b, Int.mul_comm m n]
/-- The fraction a / n. -/
def frP (a : Int) (n : Nat) : S27 := ⟨(redF a n).1, (redF a n).2⟩
theorem frP_eq (a b : Int) (n m : Nat) (hn : 1 ≤ n) (hm : 1 ≤ m) (h : a * m = b * n) : frP a n = frP b m := by
  unfold frP
  rw [redF_eq a n b m (by omega) (by omega) h]
theorem frP_zero (n : Nat) (hn : 1 ≤ n) : frP 0 n = ⟨0, 1⟩ := by
  unfold frP
  rw [redF_zero n (by omega)]
theorem frP_one (a : Int) : frP a 1 = ⟨a, 1⟩ := by
  unfold frP redF
  rw [show ((1 : Nat) : Int) = 1 from rfl, Int.gcd_one]
  simp
theorem frP_num (a : Int) (n : Nat) (hn : 1 ≤ n) : (frP a n).f0 = 0 ↔ a = 0 := by
  obtain ⟨g, hg, e1, _⟩ := redF_parts a n (by omega)
  unfold frP
  dsimp only
  refine ⟨fun h => by rw [e1, h, Int.mul_zero], fun h => by rw [h, redF_zero n (by omega)]⟩
theorem frP_fit (a : Int) (n : Nat) (hn : 1 ≤ n) (ha : a.natAbs ≤ 1000000000) (hn2 : n ≤ 1000000000) : okF2 (frP a n) := by
  obtain ⟨g, hg, e1, e2, h1, h2⟩ := redF_parts a n (by omega)
  unfold okF2 frP
  dsimp only
  generalize (redF a n).1 = x at e1 h2 ⊢
  generalize (redF a n).2 = y at e2 h1 h2 ⊢
  have b1 : y ≤ n := by
    have := Int.mul_le_mul_of_nonneg_right hg (show 0 ≤ y by omega)
    omega
  have b2 : x.natAbs ≤ a.natAbs := by
    rw [e1, Int.natAbs_mul]
    exact Nat.le_mul_of_pos_left _ (by omega)
  unfold fitF
  simp only [Bool.and_eq_true, decide_eq_true_eq]
  refine ⟨⟨h1, by omega⟩, ⟨by omega, by omega⟩, h2⟩
theorem frP_times (a b : Int) (n m : Nat) (hn : 1 ≤ n) (hm : 1 ≤ m) : timesF (frP a n) (frP b m) = frP (a * b) (n * m) := by
  obtain ⟨g, hg, a1, n1, p1, _⟩ := redF_parts a n (by omega)
  obtain ⟨h, hh, b1, m1, q1, _⟩ := redF_parts b m (by omega)
  have hnm : 1 ≤ n * m := Nat.mul_le_mul hn hm
  unfold timesF frP
  dsimp only
  have e : redF ((redF a n).1 * (redF b m).1) ((redF a n).2 * (redF b m).2) = redF (a * b) ((n * m : Nat) : Int) := by
    generalize (redF a n).1 = x0 at a1 ⊢
    generalize (redF a n).2 = x1 at n1 p1 ⊢
    generalize (redF b m).1 = y0 at b1 ⊢
    generalize (redF b m).2 = y1 at m1 q1 ⊢
    refine redF_eq _ _ _ _ ?_ (by omega) ?_
    · have := Int.mul_le_mul p1 q1 (by omega) (by omega)
      omega
    · rw [Int.natCast_mul, a1, n1, b1, m1]
      ac_rfl
  rw [e]
theorem frP_plus (a b : Int) (n : Nat) (hn : 1 ≤ n) : plusF (frP a n) (frP b n) = frP (a + b) n := by
  obtain ⟨g, hg, a1, n1, p1, _⟩ := redF_parts a n (by omega)
  obtain ⟨h, hh, b1, m1, q1, _⟩ := redF_parts b n (by omega)
  unfold plusF frP
  dsimp only
  have e : redF ((redF a n).1 * (redF b n).2 + (redF b n).1 * (redF a n).2) ((redF a n).2 * (redF b n).2) = redF (a + b) (n : Int) := by
    generalize (redF a n).1 = x0 at a1 ⊢
    generalize (redF a n).2 = x1 at n1 p1 ⊢
    generalize (redF b n).1 = y0 at b1 ⊢
    generalize (redF b n).2 = y1 at m1 q1 ⊢
    refine redF_eq _ _ _ _ ?_ (by omega) ?_
    · have := Int.mul_le_mul p1 q1 (by omega) (by omega)
      omega
    · rw [Int.add_mul, Int.add_mul]
      congr 1
      · rw [a1]
        conv => lhs; rw [n1]
        ac_rfl
      · rw [b1]
        conv => lhs; rw [m1]
        ac_rfl
  rw [e]
/-- The table with the values A(w) / |w|!. -/
def valP (A : List UInt8 → Int) (w : ByteArray) : S27 := frP (A w.toList) (fct w.size)
def tabP (ws : List ByteArray) (A : List UInt8 → Int) : List S27 := ws.map (valP A)
theorem tabP_length (ws : List ByteArray) (A : List UInt8 → Int) : (tabP ws A).length = ws.length := by simp [tabP]
theorem rdF_nat (l : List S27) (i : Nat) (h : i < l.length) : rd_T27 l (i : Int) = l[i] := by simp [rd_T27, h]
theorem tabP_rd (ws : List ByteArray) (A : List UInt8 → Int) (i : Nat) (v : ByteArray) (h : ws[i]? = some v) : rd_T27 (tabP ws A) (i : Int) = valP A v := by
  obtain ⟨hl, e⟩ := List.getElem?_eq_some_iff.1 h
  rw [rdF_nat _ i (by rw [tabP_length]; exact hl)]
  simp [tabP, e]
theorem addV_true (vs : List S27) (i : Nat) (x : S27) : addV vs i x.f0 x.f1 true = vs.set i x := by
  unfold addV sel; simp
theorem impl_times_f (x y : S27) (hx : okF2 x) (hy : okF2 y) : Ev (fun k => impl_Fraction_times.f k x.f0 x.f1 y.f0 y.f1) ((timesF x y).f0, (timesF x y).f1, fitF (timesF x y).f0 (timesF x y).f1) := by
  obtain ⟨h1, h2, h3, h4, h5⟩ := num_t x y hx hy
  unfold impl_Fraction_times.f
  rw [wrap_of (x.f0 * y.f0) (by omega) (by omega), wrap_of (x.f1 * y.f1) (by omega) (by omega)]
  refine Ev.bind (f := fun _ bt => some (bt.1, bt.2.1, bt.2.2)) (impl_red_f (x.f0 * y.f0) (x.f1 * y.f1) (by omega) h2 (by omega)) ?_
  exact Ev.now _
theorem set_mid {α : Type} (L R : List α) (x y : α) (i : Nat) (h : L.length = i) : (L ++ x :: R).set i y = L ++ y :: R := by
  subst h
  simp
theorem take_snoc {α : Type} (l : List α) (i : Nat) (h : i < l.length) : l.take (i + 1) = l.take i ++ [l[i]] := by
  rw [List.take_add_one, List.getElem?_eq_getElem h]
  rfl
/-- Multiples of all values. -/
theorem scaledL_ev (ts : List S27) (a0 a1 : Int) (g : S27 → S27) (hg : ∀ x ∈ ts, Ev (fun k => impl_Fraction_times.f k x.f0 x.f1 a0 a1) ((g x).f0, (g x).f1, true)) (bad : Bool) :
    ∀ e i, i + e = ts.length → Ev (fun k => scaledL k ts a0 a1 e i ((ts.take i).map g ++ List.replicate e ⟨0, 1⟩) bad) (ts.map g, bad)
  | 0, i, h => by
    rw [List.take_of_length_le (by omega), List.replicate_zero, List.append_nil]
    exact Ev.now _
  | e + 1, i, h => by
    have hlt : i < ts.length := by omega
    have ih := scaledL_ev ts a0 a1 g hg bad e (i + 1) (by omega)
    refine Ev.bind (f := fun k s => scaledL k ts a0 a1 e (i + 1) (addV ((ts.take i).map g ++ List.replicate (e + 1) ⟨0, 1⟩) i s.1 s.2.1 s.2.2) (bad || !s.2.2)) (g := fun k => impl_Fraction_times.f k (rd_T27 ts (i : Int)).f0 (rd_T27 ts (i : Int)).f1 a0 a1) (a := ((g ts[i]).f0, (g ts[i]).f1, true)) ?_ ?_
    · rw [rdF_nat ts i hlt]
      exact hg _ (List.getElem_mem hlt)
    · have e1 : addV ((ts.take i).map g ++ List.replicate (e + 1) ⟨0, 1⟩) i (g ts[i]).f0 (g ts[i]).f1 true = (ts.take (i + 1)).map g ++ List.replicate e ⟨0, 1⟩ := by
        rw [addV_true, List.replicate_succ, set_mid _ _ _ _ i (by rw [List.length_map, List.length_take]; omega), take_snoc ts i hlt, List.map_append, List.append_assoc]
        rfl
      dsimp only
      rw [e1, Bool.not_true, Bool.or_false]
      exact ih
/-- Sums of all values. -/
theorem sumL_ev (ts us : List S27) (hl : us.length = ts.length) (rs : List S27) (hr : rs.length = ts.length) (hg : ∀ i (h : i < ts.length), Ev (fun k => impl_Fraction_plus.f k ts[i].f0 ts[i].f1 us[i].f0 us[i].f1) (rs[i].f0, rs[i].f1, true)) (bad : Bool) :
    ∀ e i, i + e = ts.length → Ev (fun k => sumL k ts us e i (rs.take i ++ List.replicate e ⟨0, 1⟩) bad) (rs, bad)
  | 0, i, h => by
    rw [List.take_of_length_le (by omega), List.replicate_zero, List.append_nil]
    exact Ev.now _
  | e + 1, i, h => by
    have hlt : i < ts.length := by omega
    have hlt2 : i < us.length := by omega
    have hlt3 : i < rs.length := by omega
    have ih := sumL_ev ts us hl rs hr hg bad e (i + 1) (by omega)
    refine Ev.bind (f := fun k s => sumL k ts us e (i + 1) (addV (rs.take i ++ List.replicate (e + 1) ⟨0, 1⟩) i s.1 s.2.1 s.2.2) (bad || !s.2.2)) (g := fun k => impl_Fraction_plus.f k (rd_T27 ts (i : Int)).f0 (rd_T27 ts (i : Int)).f1 (rd_T27 us (i : Int)).f0 (rd_T27 us (i : Int)).f1) (a := (rs[i].f0, rs[i].f1, true)) ?_ ?_
    · rw [rdF_nat ts i hlt, rdF_nat us i hlt2]
      exact hg i hlt
    · have e1 : addV (rs.take i ++ List.replicate (e + 1) ⟨0, 1⟩) i rs[i].f0 rs[i].f1 true = rs.take (i + 1) ++ List.replicate e ⟨0, 1⟩ := by
        rw [addV_true, List.replicate_succ, set_mid _ _ _ _ i (by rw [List.length_take]; omega), take_snoc rs i hlt3, List.append_assoc]
        rfl
      dsimp only
      rw [e1, Bool.not_true, Bool.or_false]
      exact ih
theorem bt_get (v : ByteArray) (i : Nat) (h : i < v.toList.length) : bt v (i : Int) = (v.toList[i].toNat : Int) := by
 have hs : i < v.size := by simpa [ByteArray.toList_eq] using h
 unfold bt
 rw [dif_pos (by simpa using hs)]
 simp only [Int.toNat_natCast, ByteArray.toList_eq]
 rfl
theorem tl_length (v : ByteArray) : v.toList.length = v.size := by simp [ByteArray.toList_eq]
theorem tl_inj {v w : ByteArray} (h : v.toList = w.toList) : v = w := by
 rw [ByteArray.toList_eq, ByteArray.toList_eq] at h
 exact ByteArray.ext (Array.toList_inj.1 h)
theorem tl_left (v : ByteArray) (i : Nat) : (v.extract 0 i).toList = v.toList.take i := by
 simp [ByteArray.toList_eq]
theorem tl_right (v : ByteArray) (i : Nat) : (v.extract i v.size).toList = v.toList.drop i := by
 simp only [ByteArray.toList_eq, ByteArray.data_extract, Array.toList_extract, ByteArray.size, List.extract_eq_take_drop]
 rw [List.take_of_length_le (by simp)]
theorem tl_wbyte (c : Nat) : (wbyte c).toList = [UInt8.ofNat (48 + c)] := by
 have hc2 : (48 + (c : Int)).toNat = 48 + c := by omega
 simp [wbyte, strOfNums, ByteArray.toList_eq, hc2]
theorem okW_list {d : Nat} {v : ByteArray} (h : okW d v) (i : Nat) (hi : i < v.toList.length) : 48 ≤ v.toList[i].toNat ∧ v.toList[i].toNat < 48 + d := by
 have := h i (by rw [tl_length] at hi; exact hi)
 rw [bt_get v i hi] at this
 omega
theorem okW_of {d : Nat} {v : ByteArray} (h : ∀ i (hi : i < v.toList.length), 48 ≤ v.toList[i].toNat ∧ v.toList[i].toNat < 48 + d) : okW d v := by
 intro i hi
 have hi2 : i < v.toList.length := by rw [tl_length]; exact hi
 have := h i hi2
 rw [bt_get v i hi2]
 omega
theorem okW_left {d : Nat} {v : ByteArray} (h : okW d v) (i : Nat) : okW d (v.extract 0 i) := by
 refine okW_of (fun j hj => ?_)
 simp only [tl_left]
 rw [List.getElem_take]
 exact okW_list h j (by rw [tl_left, List.length_take] at hj; omega)
theorem okW_right {d : Nat} {v : ByteArray} (h : okW d v) (i : Nat) : okW d (v.extract i v.size) := by
 refine okW_of (fun j hj => ?_)
 simp only [tl_right]
 rw [List.getElem_drop]
 exact okW_list h (i + j) (by rw [tl_right, List.length_drop] at hj; omega)
theorem word_mem (d : Nat) : ∀ q v, okW d v → v.size = q → v ∈ wordsN d q
 | 0, v, _, hs => by
  rw [wordsN, List.mem_singleton]
  exact tl_inj (by rw [List.eq_nil_of_length_eq_zero (show v.toList.length = 0 by rw [tl_length]; exact hs)]; simp [ByteArray.toList_eq])
 | q + 1, v, h, hs => by
  have hl : q < v.toList.length := by rw [tl_length]; omega
  have hb := okW_list h q hl
  have ih := word_mem d q (v.extract 0 q) (okW_left h q) (by rw [← tl_length, tl_left, List.length_take]; omega)
  rw [wordsN, nextW, List.mem_flatMap]
  refine ⟨_, ih, ?_⟩
  have e : v = v.extract 0 q ++ wbyte (0 + (v.toList[q].toNat - 48)) := by
   refine tl_inj ?_
   rw [app_toList, tl_left, tl_wbyte, show 48 + (0 + (v.toList[q].toNat - 48)) = v.toList[q].toNat by omega, UInt8.ofNat_toNat]
   conv => lhs; rw [← List.take_append_drop q v.toList]
   rw [List.drop_eq_getElem_cons hl, List.drop_of_length_le (by rw [tl_length]; omega)]
  have := List.mem_of_getElem? (extFrom_get (v.extract 0 q) d 0 (v.toList[q].toNat - 48) (by omega))
  rw [← e] at this
  exact this
/-- All words up to a length stand at their numbers. -/
def Numbered (D N : Nat) (ws : List ByteArray) : Prop := ∀ v, okW D v → v.size ≤ N → ∃ n, n < ws.length ∧ ws[n]? = some v ∧ Ev (fun k => impl_number.f k (D : Int) v) (n : Int)
theorem numbered (D N : Nat) (hl : lvlOk (D : Int) (N : Int) = true) : Numbered D N (allW D (N + 1) 0) := fun v hv hs => number_word D N v.size hl hs v (word_mem D v.size v hv rfl)
/-- One part of a product: its two values are multiplied and added. -/
theorem part_ev {D : Nat} {w : ByteArray} {j : Nat} (hjn : Ev (fun k => impl_number.f k (D : Int) w) (j : Int)) (vs : List S27) (x y z m s : S27) (hvj : vs[j]? = some z) (hx : okF2 x) (hy : okF2 y) (hz : okF2 z) (hm : timesF x y = m) (hm2 : okF2 m) (hs : plusF z m = s) (hs2 : okF2 s) (bad : Bool) {T : Nat → List S27 → Bool → Option (List S27 × Bool)} {R : List S27 × Bool} (h : Ev (fun k => T k (vs.set j s) bad) R) :
 Ev (fun k => (impl_Fraction_times.f k x.f0 x.f1 y.f0 y.f1).bind fun m => (impl_number.f k (D : Int) w).bind fun j => if 0 ≤ j ∧ j < (vs.length : Int) then
  (impl_Fraction_plus.f k (rd_T27 vs j).f0 (rd_T27 vs j).f1 (sel m.2.2 m.1 0) (sel m.2.2 m.2.1 1)).bind fun s => T k (addV vs j.toNat s.1 s.2.1 s.2.2) ((bad || !m.2.2) || !s.2.2)
  else none) R := by
 have ht := impl_times_f x y hx hy
 rw [hm, show fitF m.f0 m.f1 = true from hm2] at ht
 have hp := impl_plus_f z m hz hm2
 rw [hs, show fitF s.f0 s.f1 = true from hs2] at hp
 obtain ⟨h1, h2⟩ := List.getElem?_eq_some_iff.1 hvj
 have hrd : rd_T27 vs (j : Int) = z := by rw [rdF_nat _ _ h1, h2]
 refine Ev.bind (f := fun (k : Nat) (m : Int × Int × Bool) => (impl_number.f k (D : Int) w).bind fun j => if 0 ≤ j ∧ j < (vs.length : Int) then
  (impl_Fraction_plus.f k (rd_T27 vs j).f0 (rd_T27 vs j).f1 (sel m.2.2 m.1 0) (sel m.2.2 m.2.1 1)).bind fun s => T k (addV vs j.toNat s.1 s.2.1 s.2.2) ((bad || !m.2.2) || !s.2.2)
  else none) ht ?_
 dsimp only
 refine Ev.bind (f := fun (k : Nat) (j : Int) => if 0 ≤ j ∧ j < (vs.length : Int) then
  (impl_Fraction_plus.f k (rd_T27 vs j).f0 (rd_T27 vs j).f1 (sel true m.f0 0) (sel true m.f1 1)).bind fun s => T k (addV vs j.toNat s.1 s.2.1 s.2.2) ((bad || !true) || !s.2.2)
  else none) hjn ?_
 refine Ev.congr (fun k => if_pos ⟨by omega, by omega⟩) ?_
 rw [hrd]
 refine Ev.bind (f := fun (k : Nat) (s : Int × Int × Bool) => T k (addV vs (j : Int).toNat s.1 s.2.1 s.2.2) ((bad || !true) || !s.2.2)) hp ?_
 dsimp only
 rw [Int.toNat_natCast, addV_true, Bool.not_true, Bool.or_false, Bool.or_false]
 exact h
section
variable {D N : Nat} {ws : List ByteArray} (hnum : Numbered D N ws) (hN : N ≤ 5) (hok : ∀ w ∈ ws, okW D w ∧ w.size ≤ N) (hinj : ∀ (i j : Nat) (v : ByteArray), ws[i]? = some v → ws[j]? = some v → i = j)
variable (A B : List UInt8 → Int) (hA : ∀ v : List UInt8, v.length ≤ 5 → (A v).natAbs ≤ 1000000) (hB : ∀ v : List UInt8, v.length ≤ 5 → (B v).natAbs ≤ 1000)
include hnum hN hok hinj hA hB
theorem timesI_ev (w : ByteArray) (j : Nat) (hj : ws[j]? = some w) (hcv : ∀ i, i ≤ w.size + 1 → (cv A B w.toList i).natAbs ≤ 1000000000) (bad : Bool) :
 ∀ e i (vs : List S27), i + e = w.size + 1 → vs.length = ws.length → vs[j]? = some (frP (cv A B w.toList i) (fct w.size)) →
  Ev (fun k => timesI k (D : Int) w (tabP ws A) (tabP ws B) e i vs bad) (vs.set j (frP (conv A B w.toList) (fct w.size)), bad)
 | 0, i, vs, hi, hl, hv => by
  obtain ⟨hlt, e⟩ := List.getElem?_eq_some_iff.1 hv
  have : conv A B w.toList = cv A B w.toList i := by unfold conv; rw [tl_length, show w.size + 1 = i by omega]
  rw [this, ← e, List.set_getElem_self]
  exact Ev.now _
 | e + 1, i, vs, hi, hl, hv => by
  obtain ⟨hw, hs⟩ := hok w (List.mem_of_getElem? hj)
  obtain ⟨hjl, hje⟩ := List.getElem?_eq_some_iff.1 hj
  have hwl := tl_length w
  have il : (w.extract 0 i).size = i := by rw [← tl_length, tl_left, List.length_take]; omega
  have ir : (w.extract i w.size).size = w.size - i := by rw [← tl_length, tl_right, List.length_drop, hwl]
  obtain ⟨p, hp, hpe, hpn⟩ := hnum (w.extract 0 i) (okW_left hw i) (by omega)
  obtain ⟨q, hq, hqe, hqn⟩ := hnum (w.extract i w.size) (okW_right hw i) (by omega)
  have rp' := tabP_rd ws A p _ hpe
  have rq' := tabP_rd ws B q _ hqe
  have va : valP A (w.extract 0 i) = frP (A (w.toList.take i)) (fct i) := by unfold valP; rw [tl_left, il]
  have vb : valP B (w.extract i w.size) = frP (B (w.toList.drop i)) (fct (w.size - i)) := by unfold valP; rw [tl_right, ir]
  have ha := hA (w.toList.take i) (by rw [List.length_take]; omega)
  have hb := hB (w.toList.drop i) (by rw [List.length_drop]; omega)
  have f1 := fct_pos i
  have f2 := fct_pos (w.size - i)
  have f3 := fct_pos w.size
  have g1 := fct_small i (by omega)
  have g2 := fct_small (w.size - i) (by omega)
  have g3 := fct_small w.size (by omega)
  have hc1 := hcv (i + 1) (by omega)
  have hc0 := hcv i (by omega)
  have hbin := bin_fct w.size (by omega) i (by omega)
  have ecv : cv A B w.toList (i + 1) = cv A B w.toList i + (bin w.size i : Int) * (A (w.toList.take i) * B (w.toList.drop i)) := by rw [cv, hwl]
  refine Ev.bind (f := fun k (p : Int) => (impl_number.f k (D : Int) (w.extract i w.size)).bind fun q => if (0 ≤ p ∧ p < ((tabP ws A).length : Int)) ∧ 0 ≤ q ∧ q < ((tabP ws B).length : Int) then
   (if (rd_T27 (tabP ws A) p).f0 = 0 ∨ (rd_T27 (tabP ws B) q).f0 = 0 then timesI k (D : Int) w (tabP ws A) (tabP ws B) e (i + 1) vs bad else
    (impl_Fraction_times.f k (rd_T27 (tabP ws A) p).f0 (rd_T27 (tabP ws A) p).f1 (rd_T27 (tabP ws B) q).f0 (rd_T27 (tabP ws B) q).f1).bind fun m => (impl_number.f k (D : Int) w).bind fun j => if 0 ≤ j ∧ j < (vs.length : Int) then
     (impl_Fraction_plus.f k (rd_T27 vs j).f0 (rd_T27 vs j).f1 (sel m.2.2 m.1 0) (sel m.2.2 m.2.1 1)).bind fun s => timesI k (D : Int) w (tabP ws A) (tabP ws B) e (i + 1) (addV vs j.toNat s.1 s.2.1 s.2.2) ((bad || !m.2.2) || !s.2.2)
    else none) else none) hpn ?_
  refine Ev.bind (f := fun k (q : Int) => if (0 ≤ (p : Int) ∧ (p : Int) < ((tabP ws A).length : Int)) ∧ 0 ≤ q ∧ q < ((tabP ws B).length : Int) then
   (if (rd_T27 (tabP ws A) (p : Int)).f0 = 0 ∨ (rd_T27 (tabP ws B) q).f0 = 0 then timesI k (D : Int) w (tabP ws A) (tabP ws B) e (i + 1) vs bad else
    (impl_Fraction_times.f k (rd_T27 (tabP ws A) (p : Int)).f0 (rd_T27 (tabP ws A) (p : Int)).f1 (rd_T27 (tabP ws B) q).f0 (rd_T27 (tabP ws B) q).f1).bind fun m => (impl_number.f k (D : Int) w).bind fun j => if 0 ≤ j ∧ j < (vs.length : Int) then
     (impl_Fraction_plus.f k (rd_T27 vs j).f0 (rd_T27 vs j).f1 (sel m.2.2 m.1 0) (sel m.2.2 m.2.1 1)).bind fun s => timesI k (D : Int) w (tabP ws A) (tabP ws B) e (i + 1) (addV vs j.toNat s.1 s.2.1 s.2.2) ((bad || !m.2.2) || !s.2.2)
    else none) else none) hqn ?_
  refine Ev.congr (fun k => if_pos ⟨⟨by omega, by rw [tabP_length]; omega⟩, by omega, by rw [tabP_length]; omega⟩) ?_
  rw [rp', rq', va, vb]
  by_cases hz : A (w.toList.take i) = 0 ∨ B (w.toList.drop i) = 0
  ·have hz2 : (frP (A (w.toList.take i)) (fct i)).f0 = 0 ∨ (frP (B (w.toList.drop i)) (fct (w.size - i))).f0 = 0 := hz.imp (frP_num _ _ f1).2 (frP_num _ _ f2).2
   have e0 : cv A B w.toList (i + 1) = cv A B w.toList i := by
    rw [ecv]
    rcases hz with h | h <;> rw [h] <;> simp
   refine Ev.congr (fun k => if_pos hz2) ?_
   exact timesI_ev w j hj hcv bad e (i + 1) vs (by omega) hl (by rw [e0]; exact hv)
  ·have hz2 : ¬ ((frP (A (w.toList.take i)) (fct i)).f0 = 0 ∨ (frP (B (w.toList.drop i)) (fct (w.size - i))).f0 = 0) := fun h => hz (h.imp (frP_num _ _ f1).1 (frP_num _ _ f2).1)
   refine Ev.congr (fun k => if_neg hz2) ?_
   have ok1 := frP_fit (A (w.toList.take i)) (fct i) f1 (by omega) (by omega)
   have ok2 := frP_fit (B (w.toList.drop i)) (fct (w.size - i)) f2 (by omega) (by omega)
   have hab : (A (w.toList.take i) * B (w.toList.drop i)).natAbs ≤ 1000000000 := by
    rw [Int.natAbs_mul]
    exact Nat.le_trans (Nat.mul_le_mul ha hb) (by decide)
   have hfm : fct i * fct (w.size - i) ≤ 14400 := Nat.mul_le_mul g1 g2
   have hfp : 1 ≤ fct i * fct (w.size - i) := Nat.mul_le_mul f1 f2
   have okt := frP_fit (A (w.toList.take i) * B (w.toList.drop i)) (fct i * fct (w.size - i)) hfp hab (by omega)
   have em : frP (A (w.toList.take i) * B (w.toList.drop i)) (fct i * fct (w.size - i)) = frP ((bin w.size i : Int) * (A (w.toList.take i) * B (w.toList.drop i))) (fct w.size) := by
    refine frP_eq _ _ _ _ hfp f3 ?_
    rw [← hbin, Int.natCast_mul]
    ac_rfl
   obtain ⟨j', hj', hje', hjn⟩ := hnum w hw hs
   obtain rfl := hinj _ _ _ hj hje'
   have := timesI_ev w j hj hcv bad e (i + 1) (vs.set j (frP (cv A B w.toList (i + 1)) (fct w.size))) (by omega) (by rw [List.length_set]; exact hl) (by rw [List.getElem?_set_self (by omega)])
   rw [List.set_set] at this
   exact part_ev hjn vs _ _ _ _ _ hv ok1 ok2 (frP_fit (cv A B w.toList i) (fct w.size) f3 hc0 (by omega)) (frP_times _ _ _ _ f1 f2) okt (by rw [em, frP_plus _ _ _ f3, ← ecv]) (frP_fit _ _ f3 hc1 (by omega)) bad (T := fun k v b => timesI k (D : Int) w (tabP ws A) (tabP ws B) e (i + 1) v b) this
theorem timesO_ev (hcv : ∀ w ∈ ws, ∀ i, i ≤ w.size + 1 → (cv A B w.toList i).natAbs ≤ 1000000000) (bad : Bool) : ∀ (l pre : List ByteArray), pre ++ l = ws →
 Ev (fun k => timesO k (D : Int) (tabP ws A) (tabP ws B) l (tabP pre (conv A B) ++ List.replicate l.length ⟨0, 1⟩) bad) (tabP ws (conv A B), bad)
 | [], pre, h => by
  rw [List.append_nil] at h
  rw [List.length_nil, List.replicate_zero, List.append_nil, h]
  exact Ev.now _
 | w :: l, pre, h => by
  have hj : ws[pre.length]? = some w := by rw [← h]; simp
  have hw : w ∈ ws := List.mem_of_getElem? hj
  have ih := timesO_ev hcv bad l (pre ++ [w]) (by rw [← h]; simp)
  have hI := timesI_ev hnum hN hok hinj A B hA hB w pre.length hj (hcv w hw) bad (w.size + 1) 0 (tabP pre (conv A B) ++ List.replicate (w :: l).length ⟨0, 1⟩) (by omega) (by rw [← h]; simp [tabP_length]) (by
   rw [List.getElem?_append_right (by rw [tabP_length]; omega), tabP_length, Nat.sub_self, cv, frP_zero _ (fct_pos _)]
   simp)
  refine Ev.bind (f := fun k r => timesO k (D : Int) (tabP ws A) (tabP ws B) l r.1 r.2) hI ?_
  dsimp only
  rw [List.length_cons, List.replicate_succ, set_mid _ _ _ _ pre.length (tabP_length _ _)]
  have e : tabP pre (conv A B) ++ frP (conv A B w.toList) (fct w.size) :: List.replicate l.length ⟨0, 1⟩ = tabP (pre ++ [w]) (conv A B) ++ List.replicate l.length ⟨0, 1⟩ := by
   simp [tabP, valP]
  rw [e]
  exact ih
end
theorem tabP_congr (ws : List ByteArray) (A B : List UInt8 → Int) (h : ∀ w ∈ ws, A w.toList = B w.toList) : tabP ws A = tabP ws B := by
 unfold tabP valP
 exact List.map_congr_left (fun w hw => by rw [h w hw])
theorem factorial_l0 (n : Nat) (hn : n ≤ 5) : ∀ e i, 1 ≤ i → i + e = n + 1 → Ev (fun k => impl_factorial.l0 k (n : Int) (fct (i - 1) : Int) (i : Int)) (fct n : Int) := by
  intro e
  induction e with
  | zero =>
    intro i h1 hi
    refine Ev.step (f := fun _ => some (fct (i - 1) : Int)) (fun k => ?_) ?_
    · rw [impl_factorial.l0, if_neg (by omega)]
    · rw [show i - 1 = n by omega]; exact Ev.now _
  | succ e ih =>
    intro i h1 hi
    obtain ⟨q, rfl⟩ : ∃ q, i = q + 1 := ⟨i - 1, by omega⟩
    refine Ev.step (fun k => ?_) (ih (q + 1 + 1) (by omega) (by omega))
    have hf := fct_small (q + 1) (by omega)
    rw [impl_factorial.l0, if_pos (by omega)]
    simp only [Nat.add_sub_cancel]
    rw [wrap_nat _ (by omega)]
    have e : ((fct q : Nat) : Int) * ((q + 1 : Nat) : Int) = (fct (q + 1) : Int) := by rw [fct, Int.natCast_mul, Int.mul_comm]
    rw [e, wrap_of _ (by omega) (by omega)]
theorem factorial_f (n : Nat) (hn : n ≤ 5) : Ev (fun k => impl_factorial.f k (n : Int)) (fct n : Int) := by
  by_cases h : n = 0
  · subst h
    refine Ev.step (f := fun _ => some 1) (fun k => ?_) (Ev.now _)
    unfold impl_factorial.f
    rw [impl_factorial.l0, if_neg (by decide)]
  · have := factorial_l0 n hn (n - 1) 2 (by omega) (by omega)
    exact this
section
variable {D N : Nat} {ws : List ByteArray} (hnum : Numbered D N ws) (hN : N ≤ 5) (hok : ∀ w ∈ ws, okW D w ∧ w.size ≤ N) (hinj : ∀ (i j : Nat) (v : ByteArray), ws[i]? = some v → ws[j]? = some v → i = j)
theorem stepA_small (c : UInt8) (s : Int) (hs : s = 1 ∨ s = -1) (w : List UInt8) : (stepA c s w).natAbs ≤ 1 := by
  unfold stepA
  split
  · rcases hs with rfl | rfl <;> decide
  · decide
theorem powA_small (c : UInt8) (s : Int) (hs : s = 1 ∨ s = -1) (k : Nat) (hk : k ≤ 5) (w : List UInt8) : (powA c s k w).natAbs ≤ 120 := by
  unfold powA
  split
  · rw [Int.natAbs_mul]
    have h1 := pow_sign s hs k
    have h2 := fct_small k hk
    rw [Int.natAbs_natCast]
    exact Nat.le_trans (Nat.mul_le_mul h1 h2) (by decide)
  · decide
theorem partA_small (c : UInt8) (s : Int) (hs : s = 1 ∨ s = -1) (k : Nat) (w : List UInt8) : (partA c s k w).natAbs ≤ 1 := by
  unfold partA
  split
  · exact pow_sign s hs k
  · decide
theorem powA_part (c : UInt8) (s : Int) (k : Nat) (w : List UInt8) : powA c s k w = partA c s k w * (fct k : Int) := by
  unfold powA partA
  split
  · rfl
  · simp
include hnum hN hok hinj
theorem nextP_ev (c : UInt8) (s : Int) (hs : s = 1 ∨ s = -1) (i : Nat) (hi : i ≤ N) : Ev (fun k => nextP k (D : Int) ws (tabP ws (stepA c s)) false i (tabP ws (powA c s (i - 1))) false) (tabP ws (powA c s i), false) := by
  unfold nextP
  by_cases h0 : i = 0
  · subst h0
    exact Ev.congr (fun k => if_pos rfl) (Ev.now _)
  · obtain ⟨q, rfl⟩ : ∃ q, i = q + 1 := ⟨i - 1, by omega⟩
    refine Ev.congr (fun k => if_neg (by omega)) ?_
    have h := timesO_ev hnum hN hok hinj (powA c s q) (stepA c s) (fun v _ => Nat.le_trans (powA_small c s hs q (by omega) v) (by decide)) (fun v _ => Nat.le_trans (stepA_small c s hs v) (by decide)) (fun w hw j hj => ?_) (false || false) ws [] rfl
    · have e := tabP_congr ws (conv (powA c s q) (stepA c s)) (powA c s (q + 1)) (fun w hw => powA_succ c s q w.toList (by rw [tl_length]; have := (hok w hw).2; omega))
      rw [e] at h
      exact h
    · rw [cv_one (powA c s q) (stepA c s) w.toList q (pow_zero c s q w.toList) j (by rw [tl_length]; exact hj)]
      split
      · rw [Int.natAbs_mul, Int.natAbs_mul, Int.natAbs_natCast]
        have h1 := bin_small w.toList.length (by rw [tl_length]; have := (hok w hw).2; omega) q
        have h2 := powA_small c s hs q (by omega) (w.toList.take q)
        have h3 := stepA_small c s hs (w.toList.drop q)
        exact Nat.le_trans (Nat.mul_le_mul h1 (Nat.mul_le_mul h2 h3)) (by decide)
      · decide
theorem powersL_ev (c : UInt8) (s : Int) (hs : s = 1 ∨ s = -1) : ∀ e i, i + e = N + 1 →
    Ev (fun k => powersL k (D : Int) ws (tabP ws (stepA c s)) false e i (tabP ws (expA c s i)) false (tabP ws (powA c s (i - 1))) false) (tabP ws (expA c s (N + 1)), false)
  | 0, i, h => by
    rw [show i = N + 1 by omega]
    exact Ev.now _
  | e + 1, i, h => by
    have ih := powersL_ev c s hs e (i + 1) (by omega)
    rw [Nat.add_sub_cancel] at ih
    have hp := nextP_ev hnum hN hok hinj c s hs i (by omega)
    have hf := factorial_f i (by omega)
    have hfs := fct_small i (by omega)
    have hfp := fct_pos i
    refine Ev.bind (f := fun (k : Nat) (p : List S27 × Bool) => if p.1.length = ws.length then (impl_factorial.f k (i : Int)).bind fun f =>
      (scaledL k p.1 1 f ws.length 0 (List.replicate ws.length ⟨0, 1⟩) p.2).bind fun s' => if s'.1.length = ws.length then (sumL k (tabP ws (expA c s i)) s'.1 ws.length 0 (List.replicate ws.length ⟨0, 1⟩) (false || s'.2)).bind fun o => if o.1.length = ws.length then powersL k (D : Int) ws (tabP ws (stepA c s)) false e (i + 1) o.1 o.2 p.1 p.2 else none else none else none) hp ?_
    refine Ev.congr (fun k => if_pos (tabP_length _ _)) ?_
    refine Ev.bind (f := fun (k : Nat) (f : Int) =>
      (scaledL k (tabP ws (powA c s i)) 1 f ws.length 0 (List.replicate ws.length ⟨0, 1⟩) false).bind fun s' => if s'.1.length = ws.length then (sumL k (tabP ws (expA c s i)) s'.1 ws.length 0 (List.replicate ws.length ⟨0, 1⟩) (false || s'.2)).bind fun o => if o.1.length = ws.length then powersL k (D : Int) ws (tabP ws (stepA c s)) false e (i + 1) o.1 o.2 (tabP ws (powA c s i)) false else none else none) hf ?_
    have hsc := scaledL_ev (tabP ws (powA c s i)) 1 (fct i : Int) (fun x => timesF x (frP 1 (fct i))) (fun x hx => ?_) false ws.length 0 (by rw [tabP_length]; omega)
    · have em : (tabP ws (powA c s i)).map (fun x => timesF x (frP 1 (fct i))) = tabP ws (partA c s i) := by
        unfold tabP
        rw [List.map_map]
        refine List.map_congr_left (fun w hw => ?_)
        simp only [Function.comp, valP]
        have h1 := fct_pos w.size
        rw [frP_times _ _ _ _ h1 hfp, Int.mul_one]
        refine frP_eq _ _ _ _ (Nat.mul_le_mul h1 hfp) h1 ?_
        rw [powA_part, Int.natCast_mul]
        ac_rfl
      rw [em, List.take_zero, List.map_nil, List.nil_append] at hsc
      refine Ev.bind (f := fun (k : Nat) (s' : List S27 × Bool) => if s'.1.length = ws.length then (sumL k (tabP ws (expA c s i)) s'.1 ws.length 0 (List.replicate ws.length ⟨0, 1⟩) (false || s'.2)).bind fun o => if o.1.length = ws.length then powersL k (D : Int) ws (tabP ws (stepA c s)) false e (i + 1) o.1 o.2 (tabP ws (powA c s i)) false else none else none) hsc ?_
      refine Ev.congr (fun k => if_pos (tabP_length _ _)) ?_
      have hsm := sumL_ev (tabP ws (expA c s i)) (tabP ws (partA c s i)) (by rw [tabP_length, tabP_length]) (tabP ws (expA c s (i + 1))) (by rw [tabP_length, tabP_length]) (fun j hj => ?_) (false || false) ws.length 0 (by rw [tabP_length]; omega)
      · rw [List.take_zero, List.nil_append] at hsm
        refine Ev.bind (f := fun (k : Nat) (o : List S27 × Bool) => if o.1.length = ws.length then powersL k (D : Int) ws (tabP ws (stepA c s)) false e (i + 1) o.1 o.2 (tabP ws (powA c s i)) false else none) hsm ?_
        refine Ev.congr (fun k => if_pos (tabP_length _ _)) ?_
        exact ih
      · have hjw : j < ws.length := by rw [tabP_length] at hj; exact hj
        simp only [tabP, List.getElem_map]
        have h1 := fct_pos ws[j].size
        have h2 := fct_small ws[j].size (by have := (hok _ (List.getElem_mem hjw)).2; omega)
        have b1 := expA_small c s hs i ws[j].toList
        have b2 := partA_small c s hs i ws[j].toList
        have b3 := expA_small c s hs (i + 1) ws[j].toList
        have hpl := impl_plus_f (valP (expA c s i) ws[j]) (valP (partA c s i) ws[j]) (frP_fit _ _ h1 (by omega) (by omega)) (frP_fit _ _ h1 (by omega) (by omega))
        have ep : plusF (valP (expA c s i) ws[j]) (valP (partA c s i) ws[j]) = valP (expA c s (i + 1)) ws[j] := by
          unfold valP
          rw [frP_plus _ _ _ h1, expA_succ]
        have eo : okF2 (valP (expA c s (i + 1)) ws[j]) := frP_fit _ _ h1 (by omega) (by omega)
        rw [ep, show fitF (valP (expA c s (i + 1)) ws[j]).f0 (valP (expA c s (i + 1)) ws[j]).f1 = true from eo] at hpl
        exact hpl
    · obtain ⟨w, hw, rfl⟩ := List.mem_map.1 hx
      have h1 := fct_pos w.size
      have h2 := fct_small w.size (by have := (hok _ hw).2; omega)
      have b1 := powA_small c s hs i (by omega) w.toList
      have hm : fct w.size * fct i ≤ 14400 := Nat.mul_le_mul h2 hfs
      have hmp : 1 ≤ fct w.size * fct i := Nat.mul_le_mul h1 hfp
      have e1 : frP 1 (fct i) = ⟨1, (fct i : Int)⟩ := by
        unfold frP redF
        simp
      have ht := impl_times_f (valP (powA c s i) w) (frP 1 (fct i)) (frP_fit _ _ h1 (by omega) (by omega)) (frP_fit _ _ hfp (by decide) (by omega))
      have eo : okF2 (timesF (valP (powA c s i) w) (frP 1 (fct i))) := by
        unfold valP
        rw [frP_times _ _ _ _ h1 hfp]
        exact frP_fit _ _ hmp (by rw [Int.mul_one]; omega) (by omega)
      rw [show fitF (timesF (valP (powA c s i) w) (frP 1 (fct i))).f0 (timesF (valP (powA c s i) w) (frP 1 (fct i))).f1 = true from eo] at ht
      rw [e1] at ht ⊢
      exact ht
end
/-- The step of a number of a group word for d letters. -/
def stepOf (d n : Int) : List Int := (List.replicate d.toNat 0).set ((mx n (-n)) - 1).toNat (if n > 0 then 1 else -1)
theorem stepOf_length (d n : Int) : (stepOf d n).length = d.toNat := by simp [stepOf]
theorem impl_pathOfWord_l0 (d : Int) (hd : 1 ≤ d) (hd3 : d ≤ 3) (l : List Int) (hl : l.length ≤ 12) (hm : ∀ x ∈ l, x ≠ 0 ∧ -d ≤ x ∧ x ≤ d) : ∀ n k i (x : List (List Int)), i + n = l.length → n < k → x.length = i → impl_pathOfWord.l0 k d x l (l.length : Int) (i : Int) = some (x ++ (l.drop i).map (stepOf d)) := by
  intro n
  induction n with
  | zero =>
    intro k i x h hk hx
    obtain ⟨k, rfl⟩ : ∃ m, k = m + 1 := ⟨k - 1, by omega⟩
    simp only [impl_pathOfWord.l0]
    rw [if_neg (by omega), List.drop_of_length_le (by omega)]
    simp
  | succ n ih =>
    intro k i x h hk hx
    obtain ⟨k, rfl⟩ : ∃ m, k = m + 1 := ⟨k - 1, by omega⟩
    have hb := hm l[i] (List.getElem_mem (by omega))
    simp only [impl_pathOfWord.l0, impl_size.f, Option.bind_some]
    rw [if_pos (by omega), if_pos (by omega), if_pos (by omega), if_pos (by omega), if_pos (by omega), rd_nat l i (by omega), wrap_nat _ (by omega), List.drop_eq_getElem_cons (show i < l.length by omega), List.map_cons]
    have e1 : wrap64 (-l[i]) = -l[i] := wrap_of _ (by omega) (by omega)
    rw [e1]
    have e2 : 1 ≤ mx l[i] (-l[i]) ∧ mx l[i] (-l[i]) ≤ d := by unfold mx; omega
    rw [wrap_of (mx l[i] (-l[i]) - 1) (by omega) (by omega), if_neg (by omega), if_pos (by omega), if_pos (by simp; omega), if_pos (by omega)]
    have e3 : wrap64 (Int.tdiv l[i] (mx l[i] (-l[i]))) = if l[i] > 0 then 1 else -1 := by
      by_cases h0 : l[i] > 0
      · rw [if_pos h0, show mx l[i] (-l[i]) = l[i] from by unfold mx; omega, Int.tdiv_self (by omega)]; exact wrap_of 1 (by omega) (by omega)
      · rw [if_neg h0, show mx l[i] (-l[i]) = -l[i] from by unfold mx; omega, Int.tdiv_neg, Int.tdiv_self (by omega)]; exact wrap_of (-1) (by omega) (by omega)
    rw [e3, ih k (i + 1) _ (by omega) (by omega) (by simp [hx])]
    simp [stepOf]
theorem stepF_list (m : Nat) (l : List Int) (hm : l.length + 1 ≤ m) : ∀ i, i ≤ l.length → stepF m l i = (⟨0, 1⟩ :: (l.take i).map (fun x => (⟨x, 1⟩ : S27))) ++ List.replicate (m - 1 - i) ⟨0, 1⟩
  | 0, _ => by
    rw [stepF, List.take_zero, List.map_nil, Nat.sub_zero]
    conv => lhs; rw [show m = (m - 1) + 1 by omega, List.replicate_succ]
    rfl
  | i + 1, h => by
    have hlt : i < l.length := by omega
    have e : m - 1 - i = (m - 1 - (i + 1)) + 1 := by omega
    rw [stepF, stepF_list m l hm i (by omega), e, List.replicate_succ, set_mid _ _ _ _ (1 + i) (by simp; omega), take_snoc l i hlt, List.map_append, rd_nat l i hlt]
    simp
theorem allW_two (D N : Nat) (hN : 1 ≤ N) : ∃ R, allW D (N + 1) 0 = (⟨#[]⟩ : ByteArray) :: (extFrom ⟨#[]⟩ D 0 ++ R) ∧ ∀ w ∈ R, 2 ≤ w.size := by
  obtain ⟨M, rfl⟩ : ∃ M, N = M + 1 := ⟨N - 1, by omega⟩
  refine ⟨allW D M 2, ?_, fun w hw => ?_⟩
  · rw [allW, allW]
    simp [wordsN, nextW]
  · obtain ⟨q, h1, _, h2⟩ := allW_mem D w M 2 hw
    rw [wordsN_size D q w h2]
    exact h1
theorem stepA_zero (c : UInt8) (s : Int) (w : List UInt8) (h : w.length ≠ 1) : stepA c s w = 0 := by
  unfold stepA
  rw [if_neg (fun e => h (by rw [e]; rfl))]
theorem byte_eq (a b : Nat) (ha : a < 256) (hb : b < 256) : UInt8.ofNat a = UInt8.ofNat b ↔ a = b := by
  refine ⟨fun h => ?_, fun h => by rw [h]⟩
  have := congrArg UInt8.toNat h
  rw [UInt8.toNat_ofNat', UInt8.toNat_ofNat'] at this
  omega
theorem stepOf_get (D : Nat) (n : Int) (hn : n ≠ 0) (h1 : -(D : Int) ≤ n) (h2 : n ≤ D) (i : Nat) (hi : i < D) : (stepOf (D : Int) n)[i]? = some (if i + 1 = n.natAbs then sgn n else 0) := by
  unfold stepOf mx sgn
  rw [Int.toNat_natCast, List.getElem?_set]
  by_cases h : i + 1 = n.natAbs
  · have e : ((if n < -n then -n else n) - 1).toNat = i := by split <;> omega
    rw [if_pos e, if_pos (by rw [List.length_replicate, e]; exact hi), if_pos h]
  · have e : ¬ ((if n < -n then -n else n) - 1).toNat = i := by split <;> omega
    rw [if_neg e, if_neg h]
    simp [hi]
theorem stepF_tab (D N : Nat) (hN : 1 ≤ N) (hD : D ≤ 3) (n : Int) (hn : n ≠ 0) (h1 : -(D : Int) ≤ n) (h2 : n ≤ D) (hlen : (stepOf (D : Int) n).length + 1 ≤ (allW D (N + 1) 0).length) :
    stepF (allW D (N + 1) 0).length (stepOf (D : Int) n) (stepOf (D : Int) n).length = tabP (allW D (N + 1) 0) (stepA (ltr n) (sgn n)) := by
  have hl : (stepOf (D : Int) n).length = D := by rw [stepOf_length, Int.toNat_natCast]
  rw [stepF_list _ _ hlen _ (Nat.le_refl _), List.take_length]
  obtain ⟨R, hR, hR2⟩ := allW_two D N hN
  rw [hR]
  unfold tabP
  rw [List.map_cons, List.map_append, List.cons_append]
  congr 1
  · unfold valP
    have e0 : (⟨#[]⟩ : ByteArray).toList = [] := by simp [ByteArray.toList_eq]
    rw [e0, stepA_zero _ _ _ (by decide), frP_zero _ (fct_pos _)]
  congr 1
  · refine List.ext_getElem? (fun i => ?_)
    rw [List.getElem?_map, List.getElem?_map]
    by_cases hi : i < D
    · rw [stepOf_get D n hn h1 h2 i hi, extFrom_get _ D 0 i hi, Option.map_some, Option.map_some]
      congr 1
      unfold valP stepA ltr
      have e0 : ((⟨#[]⟩ : ByteArray) ++ wbyte (0 + i)).toList = [UInt8.ofNat (48 + i)] := by
        rw [app_toList, tl_wbyte, Nat.zero_add]
        simp [ByteArray.toList_eq]
      have e1 : fct ((⟨#[]⟩ : ByteArray) ++ wbyte (0 + i)).size = 1 := by
        rw [size_app, wbyte_size]; rfl
      rw [e0, e1, frP_one]
      congr 1
      by_cases h : i + 1 = n.natAbs
      · rw [if_pos h, if_pos (by rw [← h]; congr 2; omega)]
      · rw [if_neg h, if_neg (fun e => h ?_)]
        have := (byte_eq _ _ (by omega) (by omega)).1 (List.cons.inj e).1
        omega
    · rw [List.getElem?_eq_none (by omega), List.getElem?_eq_none (by rw [extFrom_length]; omega)]
      rfl
  · have e : (⟨#[]⟩ :: (extFrom ⟨#[]⟩ D 0 ++ R) : List ByteArray).length - 1 - (stepOf (D : Int) n).length = R.length := by
      simp [extFrom_length, hl]
    rw [e]
    refine List.ext_getElem (by simp) (fun i p q => ?_)
    rw [List.getElem_replicate, List.getElem_map]
    unfold valP
    have := hR2 _ (List.getElem_mem (by simpa using q))
    rw [stepA_zero _ _ _ (by rw [tl_length]; omega), frP_zero _ (fct_pos _)]
theorem allW_inj (D : Nat) (hD : D ≤ 3) (N : Nat) : ∀ (i j : Nat) (v : ByteArray), (allW D (N + 1) 0)[i]? = some v → (allW D (N + 1) 0)[j]? = some v → i = j := fun i j v hi hj => by
  obtain ⟨h1, e1⟩ := List.getElem?_eq_some_iff.1 hi
  obtain ⟨h2, e2⟩ := List.getElem?_eq_some_iff.1 hj
  have hlt := List.pairwise_iff_getElem.1 (allW_asc D hD (N + 1) 0)
  rcases Nat.lt_trichotomy i j with h | h | h
  · have := hlt i j h1 h2 h
    rw [e1, e2, bef_irr] at this; cases this
  · exact h
  · have := hlt j i h2 h1 h
    rw [e1, e2, bef_irr] at this; cases this
theorem allW_ok (D : Nat) (hD : D ≤ 3) (N : Nat) : ∀ w ∈ allW D (N + 1) 0, okW D w ∧ w.size ≤ N := fun w hw => by
  obtain ⟨q, _, h1, h2⟩ := allW_mem D w (N + 1) 0 hw
  refine ⟨wordsN_ok D hD q w h2, ?_⟩
  rw [wordsN_size D q w h2]
  omega
theorem unitV_tab (D N : Nat) (hN : 1 ≤ N) : unitV (allW D (N + 1) 0).length = tabP (allW D (N + 1) 0) unitA := by
  obtain ⟨R, hR, hR2⟩ := allW_two D N hN
  rw [hR]
  generalize hQ : extFrom ⟨#[]⟩ D 0 ++ R = Q
  have hq : ∀ w ∈ Q, 1 ≤ w.size := fun w hw => by
    rw [← hQ] at hw
    rcases List.mem_append.1 hw with h | h
    · rw [extFrom_size _ w D 0 h]; exact Nat.le_add_left _ _
    · exact Nat.le_trans (by decide) (hR2 w h)
  unfold unitV tabP
  rw [List.length_cons, List.replicate_succ, List.set_cons_zero, List.map_cons]
  congr 1
  · unfold valP unitA
    have e0 : (⟨#[]⟩ : ByteArray).toList = [] := by simp [ByteArray.toList_eq]
    rw [e0, if_pos rfl]
    exact (frP_one 1).symm
  · refine List.ext_getElem (by simp) (fun i p q => ?_)
    rw [List.getElem_replicate, List.getElem_map]
    have := hq _ (List.getElem_mem (by simpa using q))
    unfold valP unitA
    rw [if_neg (fun e => by have := congrArg List.length e; rw [tl_length, List.length_nil] at this; omega), frP_zero _ (fct_pos _)]
theorem unitA_bound (w : List UInt8) : (unitA w).natAbs ≤ 0 ^ w.length := by
  unfold unitA
  split
  · rename_i h; rw [h]; decide
  · exact Nat.zero_le _
/-- What a word brings to another one. -/
def addT (A B : List UInt8 → Int) (v w : List UInt8) : Int := if v.length ≤ w.length ∧ w.take v.length = v then (bin w.length v.length : Int) * (A v * B (w.drop v.length)) else 0
def sumT (A B : List UInt8 → Int) : List ByteArray → List UInt8 → Int
  | [], _ => 0
  | v :: l, w => addT A B v.toList w + sumT A B l w
theorem sumT_append (A B : List UInt8 → Int) (w : List UInt8) : ∀ l r, sumT A B (l ++ r) w = sumT A B l w + sumT A B r w
  | [], r => by simp [sumT]
  | v :: l, r => by rw [List.cons_append, sumT, sumT, sumT_append A B w l r, Int.add_assoc]
/-- The words of one length bring one part, or none. -/
theorem sumT_len (A B : List UInt8 → Int) (w : List UInt8) (q : Nat) : ∀ l : List ByteArray, (∀ v ∈ l, v.size = q) → l.Nodup → sumT A B l w = if q ≤ w.length ∧ ∃ v ∈ l, v.toList = w.take q then (bin w.length q : Int) * (A (w.take q) * B (w.drop q)) else 0
  | [], _, _ => by
    rw [if_neg (fun h => by obtain ⟨_, v, hv, _⟩ := h; cases hv)]
    rfl
  | u :: l, hs, hn => by
    have hu : u.toList.length = q := by rw [tl_length]; exact hs u (List.mem_cons_self ..)
    rw [sumT, sumT_len A B w q l (fun v hv => hs v (List.mem_cons_of_mem _ hv)) (List.nodup_cons.1 hn).2]
    unfold addT
    rw [hu]
    by_cases h : q ≤ w.length
    · by_cases he : u.toList = w.take q
      · rw [if_pos ⟨h, he.symm⟩, if_neg (fun h2 => ?_), if_pos ⟨h, u, List.mem_cons_self .., he⟩, he, Int.add_zero]
        obtain ⟨_, v, hv, hv2⟩ := h2
        have : v = u := tl_inj (hv2.trans he.symm)
        exact (List.nodup_cons.1 hn).1 (this ▸ hv)
      · rw [if_neg (fun h2 => he h2.2.symm), Int.zero_add]
        by_cases h3 : ∃ v ∈ l, v.toList = w.take q
        · obtain ⟨v, hv, hv2⟩ := h3
          rw [if_pos ⟨h, v, hv, hv2⟩, if_pos ⟨h, v, List.mem_cons_of_mem _ hv, hv2⟩]
        · rw [if_neg (fun h2 => h3 h2.2), if_neg (fun h2 => ?_)]
          obtain ⟨_, v, hv, hv2⟩ := h2
          rcases List.mem_cons.1 hv with rfl | hv
          · exact he hv2
          · exact h3 ⟨v, hv, hv2⟩
    · rw [if_neg (fun h2 => h h2.1), if_neg (fun h2 => h h2.1), if_neg (fun h2 => h h2.1)]; rfl
theorem wordsN_nodup (D : Nat) (hD : D ≤ 3) (q : Nat) : (wordsN D q).Nodup := (wordsN_asc D hD q).imp (fun {a b} h e => by subst e; rw [bef_irr] at h; cases h)
theorem take_mem (D : Nat) (w : ByteArray) (hw : okW D w) (q : Nat) (hq : q ≤ w.size) : ∃ v ∈ wordsN D q, v.toList = w.toList.take q :=
  ⟨w.extract 0 q, word_mem D q _ (okW_left hw q) (by rw [← tl_length, tl_left, List.length_take, tl_length]; omega), tl_left w q⟩
theorem sumT_part (A B : List UInt8 → Int) (D : Nat) (hD : D ≤ 3) (w : ByteArray) (q : Nat) (pre suf : List ByteArray) (h : pre ++ suf = wordsN D q) : ∃ i, i ≤ w.size + 1 ∧ cv A B w.toList (min q (w.size + 1)) + sumT A B pre w.toList = cv A B w.toList i := by
  have hn := wordsN_nodup D hD q
  rw [← h] at hn
  rw [sumT_len A B w.toList q pre (fun v hv => wordsN_size D q v (by rw [← h]; exact List.mem_append_left _ hv)) (List.nodup_append.1 hn).1, tl_length]
  split
  · rename_i hq
    refine ⟨q + 1, by omega, ?_⟩
    rw [Nat.min_eq_left (by omega), cv, tl_length]
  · exact ⟨min q (w.size + 1), by omega, Int.add_zero _⟩
section
variable (A B : List UInt8 → Int) (D : Nat) (hD : D ≤ 3) (w : ByteArray) (hw : okW D w)
include hD hw
theorem sumT_words (q : Nat) : cv A B w.toList (min q (w.size + 1)) + sumT A B (wordsN D q) w.toList = cv A B w.toList (min (q + 1) (w.size + 1)) := by
  rw [sumT_len A B w.toList q (wordsN D q) (fun v hv => wordsN_size D q v hv) (wordsN_nodup D hD q), tl_length]
  by_cases h : q ≤ w.size
  · rw [if_pos ⟨h, take_mem D w hw q h⟩, Nat.min_eq_left (by omega), Nat.min_eq_left (by omega), cv, tl_length]
  · rw [if_neg (fun h2 => h h2.1), Int.add_zero, Nat.min_eq_right (by omega), Nat.min_eq_right (by omega)]
theorem sumT_all : ∀ e m, cv A B w.toList (min m (w.size + 1)) + sumT A B (allW D e m) w.toList = cv A B w.toList (min (m + e) (w.size + 1))
  | 0, m => by rw [allW, sumT, Int.add_zero]; rfl
  | e + 1, m => by
    rw [allW, sumT_append, ← Int.add_assoc, sumT_words A B D hD w hw m, sumT_all e (m + 1)]
    congr 2
    omega
theorem sumT_pre : ∀ e m (pre suf : List ByteArray), pre ++ suf = allW D e m → ∃ i, i ≤ w.size + 1 ∧ cv A B w.toList (min m (w.size + 1)) + sumT A B pre w.toList = cv A B w.toList i
  | 0, m, pre, suf, h => by
    rw [allW, List.append_eq_nil_iff] at h
    rw [h.1]
    exact ⟨min m (w.size + 1), by omega, Int.add_zero _⟩
  | e + 1, m, pre, suf, h => by
    rw [allW, List.append_eq_append_iff] at h
    rcases h with ⟨c, h1, h2⟩ | ⟨c, h1, h2⟩
    · exact sumT_part A B D hD w m pre c h1.symm
    · obtain ⟨i, hi, e1⟩ := sumT_pre e (m + 1) c suf h2.symm
      refine ⟨i, hi, ?_⟩
      rw [h1, sumT_append, ← Int.add_assoc, sumT_words A B D hD w hw m]
      exact e1
end
theorem partT_nil (ws : List ByteArray) (vs : List S27) : ∀ (e i : Nat), (∀ j : Nat, i ≤ j → j < i + e → (rd_T27 vs (j : Int)).f0 = 0) → partT ws vs i e = []
 | 0, i, _ => by simp [partT]
 | e + 1, i, h => by
  have ih := partT_nil ws vs e (i + 1) (fun j h1 h2 => h j (by omega) (by omega))
  unfold partT at ih ⊢
  rw [List.range'_succ, List.flatMap_cons, ih, List.append_nil, oneT, if_pos (h i (by omega) (by omega))]
theorem valP_num (A : List UInt8 → Int) (w : ByteArray) : (valP A w).f0 = 0 ↔ A w.toList = 0 := frP_num _ _ (fct_pos _)
theorem sign_frac (s : Int) (hs : s = 1 ∨ s = -1) (m : Nat) : frP s (m + 1) = ⟨s, ((m + 1 : Nat) : Int)⟩ := by
 have hg : Int.gcd s ((m + 1 : Nat) : Int) = 1 := by rcases hs with rfl | rfl <;> simp
 unfold frP redF
 rw [hg]
 simp
/-- Between the words of some lengths: those up to a length have got their parts. -/
def midA (F G : List UInt8 → Int) (b : Nat) (w : List UInt8) : Int := if w.length < b then F w + G w else F w
theorem mid_step {D N : Nat} (hl : lvlOk (D : Int) (N : Int) = true) (A : List UInt8 → Int) (n : Int) (v u : ByteArray) (m : Nat) (hu : u.toList = v.toList ++ rp (ltr n) m) (F : List UInt8 → Int) (i : Nat) (hi : (allW D (N + 1) 0)[i]? = some u) (hs : u.size ≤ N) :
 (tabP (allW D (N + 1) 0) (midA F (addT A (expA (ltr n) (sgn n) (N + 1)) v.toList) (v.size + m))).set i (valP (midA F (addT A (expA (ltr n) (sgn n) (N + 1)) v.toList) (v.size + (m + 1))) u) = tabP (allW D (N + 1) 0) (midA F (addT A (expA (ltr n) (sgn n) (N + 1)) v.toList) (v.size + (m + 1))) := by
 have hb := lvlOk_bounds hl
 refine List.ext_getElem (by simp [tabP]) (fun j h1 h2 => ?_)
 rw [List.getElem_set]
 have hjl : j < (allW D (N + 1) 0).length := by rw [tabP_length] at h2; exact h2
 by_cases e : i = j
 ·subst e
  rw [if_pos rfl]
  simp only [tabP, List.getElem_map]
  rw [(List.getElem?_eq_some_iff.1 hi).2]
 ·rw [if_neg e]
  simp only [tabP, List.getElem_map]
  have hne : (allW D (N + 1) 0)[j] ≠ u := fun h => e (allW_inj D (by omega) N i j u hi (List.getElem?_eq_some_iff.2 ⟨hjl, h⟩))
  have hvl : v.toList.length = v.size := tl_length v
  generalize (allW D (N + 1) 0)[j] = w at hne
  unfold valP
  congr 1
  unfold midA
  by_cases h3 : w.toList.length < v.size + m
  ·rw [if_pos h3, if_pos (by omega)]
  ·rw [if_neg h3]
   by_cases h4 : w.toList.length < v.size + (m + 1)
   ·rw [if_pos h4]
    have hz : addT A (expA (ltr n) (sgn n) (N + 1)) v.toList w.toList = 0 := by
     unfold addT
     split
     ·rename_i hp
      unfold expA
      rw [if_neg (fun hq => ?_)]
      ·simp
      ·apply hne
       refine tl_inj ?_
       rw [hu, ← List.take_append_drop v.toList.length w.toList, hp.2, hq.1, List.length_drop]
       congr 2
       omega
     ·rfl
    rw [hz, Int.add_zero]
   ·rw [if_neg h4]
section
variable {D N : Nat} (hl : lvlOk (D : Int) (N : Int) = true) {A : List UInt8 → Int} (hA : ∀ v : List UInt8, v.length ≤ 5 → (A v).natAbs ≤ 371293) {n : Int} (hn : n ≠ 0 ∧ -(D : Int) ≤ n ∧ n ≤ D)
include hl hA hn
theorem step_l1 (v : ByteArray) (hv : okW D v) (hvs : v.size ≤ N) (T : List S89) (x : Nat) (hx : x ≤ 1000) (F : List UInt8 → Int) (hF : ∀ w ∈ allW D (N + 1) 0, (F w.toList).natAbs ≤ 1000000000) (hF2 : ∀ w ∈ allW D (N + 1) 0, (F w.toList + addT A (expA (ltr n) (sgn n) (N + 1)) v.toList w.toList).natAbs ≤ 1000000000) {R : Int × Int × List S89}
 (h : Ev (fun k => spec_l09Step.l0 k (wbyte (n.natAbs - 1)) (sgn n) ((x + 1 : Nat) : Int) (D : Int) (N : Int) T (D : Int) (N : Int) (termsOf (allW D (N + 1) 0) (tabP (allW D (N + 1) 0) (fun w => F w + addT A (expA (ltr n) (sgn n) (N + 1)) v.toList w)) (allW D (N + 1) 0).length)) R) :
 ∀ e m u, v.size + m + e = N + 1 → u.toList = v.toList ++ rp (ltr n) m →
  Ev (fun k => spec_l09Step.l1 k (wbyte (n.natAbs - 1)) (sgn n) (x : Int) u ((m + 1 : Nat) : Int) (D : Int) (N : Int) T (D : Int) (N : Int) (termsOf (allW D (N + 1) 0) (tabP (allW D (N + 1) 0) (midA F (addT A (expA (ltr n) (sgn n) (N + 1)) v.toList) (v.size + m))) (allW D (N + 1) 0).length) (frP (A v.toList * sgn n ^ m) (fct v.size * fct m)).f0 (frP (A v.toList * sgn n ^ m) (fct v.size * fct m)).f1) R
 | 0, m, u, he, hu => by
  have hb := lvlOk_bounds hl
  have hus : u.size = v.size + m := by rw [← tl_length, hu, List.length_append, tl_length]; simp [rp]
  have e1 : tabP (allW D (N + 1) 0) (midA F (addT A (expA (ltr n) (sgn n) (N + 1)) v.toList) (v.size + m)) = tabP (allW D (N + 1) 0) (fun w => F w + addT A (expA (ltr n) (sgn n) (N + 1)) v.toList w) := tabP_congr _ _ _ (fun w hw => by
   have := (allW_ok D (by omega) N w hw).2
   unfold midA
   rw [if_pos (by rw [tl_length]; omega)])
  rw [e1]
  refine Ev.step (fun k => ?_) h
  rw [spec_l09Step.l1, if_neg (by omega), wrap_nat _ (by omega)]
 | e + 1, m, u, he, hu => by
  have hb := lvlOk_bounds hl
  have hs := sgn_or n
  have hus : u.size = v.size + m := by rw [← tl_length, hu, List.length_append, tl_length]; simp [rp]
  have hvl : v.toList.length = v.size := tl_length v
  have hul : u.toList.length = u.size := tl_length u
  have hltr : (ltr n).toNat = 47 + n.natAbs := by unfold ltr; rw [UInt8.toNat_ofNat']; omega
  have huok : okW D u := okW_of (fun i hi => by
   simp only [hu]
   by_cases h1 : i < v.toList.length
   ·rw [List.getElem_append_left h1]
    exact okW_list hv i h1
   ·rw [List.getElem_append_right (by omega)]
    simp only [rp, List.getElem_replicate]
    omega)
  obtain ⟨i, hil, hie, _⟩ := numbered D N hl u huok (by omega)
  have ih := step_l1 v hv hvs T x hx F hF hF2 h e (m + 1) (u ++ wbyte (n.natAbs - 1)) (by omega) (by
   rw [app_toList, tl_wbyte, hu, List.append_assoc]
   congr 1
   rw [rp, rp, List.replicate_succ', show 48 + (n.natAbs - 1) = 47 + n.natAbs by omega]
   rfl)
  have f1 := fct_pos v.size
  have f2 := fct_pos m
  have f3 := fct_pos u.size
  have f4 := fct_pos (m + 1)
  have g1 := fct_small v.size (by omega)
  have g2 := fct_small m (by omega)
  have g3 := fct_small u.size (by omega)
  have g4 : fct (m + 1) ≤ 720 := by
   rw [fct]
   exact Nat.le_trans (Nat.mul_le_mul (show m + 1 ≤ 6 by omega) g2) (by decide)
  have hfm : fct v.size * fct m ≤ 14400 := Nat.mul_le_mul g1 g2
  have hfp : 1 ≤ fct v.size * fct m := Nat.mul_le_mul f1 f2
  have hfm4 : fct v.size * fct (m + 1) ≤ 86400 := Nat.mul_le_mul g1 g4
  have hfp4 : 1 ≤ fct v.size * fct (m + 1) := Nat.mul_le_mul f1 f4
  have hA1 := hA v.toList (by omega)
  have hAs : ∀ q : Nat, (A v.toList * sgn n ^ q).natAbs ≤ 371293 := fun q => by
   rw [Int.natAbs_mul]
   exact Nat.le_trans (Nat.mul_le_mul hA1 (pow_sign _ hs q)) (by decide)
  have hbin := bin_fct u.size (by omega) v.size (by omega)
  rw [show u.size - v.size = m by omega] at hbin
  have ea : frP (A v.toList * sgn n ^ m) (fct v.size * fct m) = frP ((bin u.size v.size : Int) * (A v.toList * sgn n ^ m)) (fct u.size) := by
   refine frP_eq _ _ _ _ hfp f3 ?_
   rw [← hbin, Int.natCast_mul]
   ac_rfl
  have hokA := frP_fit (A v.toList * sgn n ^ m) (fct v.size * fct m) hfp (by have := hAs m; omega) (by omega)
  have hadd : addT A (expA (ltr n) (sgn n) (N + 1)) v.toList u.toList = (bin u.size v.size : Int) * (A v.toList * sgn n ^ m) := by
   unfold addT
   rw [hul, hvl, hu, ← hvl, List.take_left, List.drop_left, if_pos ⟨by omega, rfl⟩]
   unfold expA
   rw [if_pos ⟨by simp [rp], by simp [rp]; omega⟩]
   simp [rp]
  have hmid0 : midA F (addT A (expA (ltr n) (sgn n) (N + 1)) v.toList) (v.size + m) u.toList = F u.toList := by
   unfold midA; rw [if_neg (by omega)]
  have hmid1 : midA F (addT A (expA (ltr n) (sgn n) (N + 1)) v.toList) (v.size + (m + 1)) u.toList = F u.toList + (bin u.size v.size : Int) * (A v.toList * sgn n ^ m) := by
   unfold midA; rw [if_pos (by omega), hadd]
  have hmem : u ∈ allW D (N + 1) 0 := List.mem_of_getElem? hie
  have hw := allW_length D N hl
  have hput := put_table (allW D (N + 1) 0) hw.2 (allW_asc D (by omega) (N + 1) 0) (tabP (allW D (N + 1) 0) (midA F (addT A (expA (ltr n) (sgn n) (N + 1)) v.toList) (v.size + m))) (tabP_length _ _) (fun y hy => by
   obtain ⟨w, hwm, rfl⟩ := List.mem_map.1 hy
   have := fct_small w.size (by have := (allW_ok D (by omega) N w hwm).2; omega)
   refine frP_fit _ _ (fct_pos _) ?_ (by omega)
   unfold midA
   split
   ·exact hF2 w hwm
   ·exact hF w hwm) i hil _ hokA
  have hrd := tabP_rd (allW D (N + 1) 0) (midA F (addT A (expA (ltr n) (sgn n) (N + 1)) v.toList) (v.size + m)) i u hie
  have hpl : plusF (valP (midA F (addT A (expA (ltr n) (sgn n) (N + 1)) v.toList) (v.size + m)) u) (frP (A v.toList * sgn n ^ m) (fct v.size * fct m)) = valP (midA F (addT A (expA (ltr n) (sgn n) (N + 1)) v.toList) (v.size + (m + 1))) u := by
   unfold valP
   rw [hmid0, hmid1, ea, frP_plus _ _ _ f3]
  have hokM : okF2 (valP (midA F (addT A (expA (ltr n) (sgn n) (N + 1)) v.toList) (v.size + (m + 1))) u) := by
   unfold valP
   rw [hmid1, ← hadd]
   exact frP_fit _ _ f3 (hF2 u hmem) (by omega)
  rw [hrd, hpl, if_pos (show fitF _ _ = true from hokM), mid_step hl A n v u m hu F i hie (by omega), (List.getElem?_eq_some_iff.1 hie).2] at hput
  have hfr : Ev (fun k => spec_l01Frac.f k (wrap64 ((frP (A v.toList * sgn n ^ m) (fct v.size * fct m)).f0 * sgn n)) (wrap64 ((frP (A v.toList * sgn n ^ m) (fct v.size * fct m)).f1 * ((m + 1 : Nat) : Int)))) ((frP (A v.toList * sgn n ^ (m + 1)) (fct v.size * fct (m + 1))).f0, (frP (A v.toList * sgn n ^ (m + 1)) (fct v.size * fct (m + 1))).f1, true) := by
   have et := frP_times (A v.toList * sgn n ^ m) (sgn n) (fct v.size * fct m) (m + 1) hfp (by omega)
   rw [sign_frac _ hs m] at et
   have e5 : A v.toList * sgn n ^ m * sgn n = A v.toList * sgn n ^ (m + 1) := by rw [Int.mul_assoc, Int.pow_succ]
   have e6 : fct v.size * fct m * (m + 1) = fct v.size * fct (m + 1) := by rw [Nat.mul_assoc, fct, Nat.mul_comm (fct m)]
   rw [e5, e6] at et
   have hok2 := frP_fit (A v.toList * sgn n ^ (m + 1)) (fct v.size * fct (m + 1)) hfp4 (by have := hAs (m + 1); omega) (by omega)
   have hbd := fitF_bounds hokA
   generalize frP (A v.toList * sgn n ^ (m + 1)) (fct v.size * fct (m + 1)) = z at et hok2
   generalize frP (A v.toList * sgn n ^ m) (fct v.size * fct m) = y at et hbd
   have b1 : (y.f0 * sgn n).natAbs ≤ 1000000000 := by
    rw [Int.natAbs_mul]
    refine Nat.le_trans (Nat.mul_le_mul (show y.f0.natAbs ≤ 1000000000 by omega) (show (sgn n).natAbs ≤ 1 by omega)) (by decide)
   have b2 : 1 ≤ y.f1 * ((m + 1 : Nat) : Int) := by
    have := Int.mul_le_mul hbd.1 (show (1 : Int) ≤ ((m + 1 : Nat) : Int) by omega) (by omega) (by omega)
    omega
   have b3 : (y.f1 * ((m + 1 : Nat) : Int)).natAbs ≤ 10000000000 := by
    rw [Int.natAbs_mul]
    refine Nat.le_trans (Nat.mul_le_mul (show y.f1.natAbs ≤ 1000000000 by omega) (show ((m + 1 : Nat) : Int).natAbs ≤ 10 by omega)) (by decide)
   rw [wrap_of _ (by omega) (by omega), wrap_of _ (by omega) (by omega)]
   have := spec_frac_f (y.f0 * sgn n) (y.f1 * ((m + 1 : Nat) : Int)) (by omega) b2 (by omega)
   have e7 : (redF (y.f0 * sgn n) (y.f1 * ((m + 1 : Nat) : Int))).1 = z.f0 ∧ (redF (y.f0 * sgn n) (y.f1 * ((m + 1 : Nat) : Int))).2 = z.f1 := by
    rw [← et]; exact ⟨rfl, rfl⟩
   rw [e7.1, e7.2, if_pos (show fitF z.f0 z.f1 = true from hok2)] at this
   exact this
  refine Ev.step (f := fun k => (spec_l01Put.f k (termsOf (allW D (N + 1) 0) (tabP (allW D (N + 1) 0) (midA F (addT A (expA (ltr n) (sgn n) (N + 1)) v.toList) (v.size + m))) (allW D (N + 1) 0).length) u (frP (A v.toList * sgn n ^ m) (fct v.size * fct m)).f0 (frP (A v.toList * sgn n ^ m) (fct v.size * fct m)).f1).bind fun (b : List S89 × Bool) => (spec_l01Frac.f k (wrap64 ((frP (A v.toList * sgn n ^ m) (fct v.size * fct m)).f0 * sgn n)) (wrap64 ((frP (A v.toList * sgn n ^ m) (fct v.size * fct m)).f1 * ((m + 1 : Nat) : Int)))).bind fun (r : Int × Int × Bool) => spec_l09Step.l1 k (wbyte (n.natAbs - 1)) (sgn n) (x : Int) (u ++ wbyte (n.natAbs - 1)) ((m + 1 + 1 : Nat) : Int) (D : Int) (N : Int) T (D : Int) (N : Int) b.1 r.1 r.2.1) (fun k => ?_) ?_
  ·rw [spec_l09Step.l1, if_pos (by omega)]
   congr 1
   funext b
   rw [if_pos (by rw [wbyte_size]; omega), wrap_nat _ (by omega)]
  ·refine Ev.bind (f := fun (k : Nat) (b : List S89 × Bool) => (spec_l01Frac.f k (wrap64 ((frP (A v.toList * sgn n ^ m) (fct v.size * fct m)).f0 * sgn n)) (wrap64 ((frP (A v.toList * sgn n ^ m) (fct v.size * fct m)).f1 * ((m + 1 : Nat) : Int)))).bind fun (r : Int × Int × Bool) => spec_l09Step.l1 k (wbyte (n.natAbs - 1)) (sgn n) (x : Int) (u ++ wbyte (n.natAbs - 1)) ((m + 1 + 1 : Nat) : Int) (D : Int) (N : Int) T (D : Int) (N : Int) b.1 r.1 r.2.1) hput ?_
   exact Ev.bind (f := fun (k : Nat) (r : Int × Int × Bool) => spec_l09Step.l1 k (wbyte (n.natAbs - 1)) (sgn n) (x : Int) (u ++ wbyte (n.natAbs - 1)) ((m + 1 + 1 : Nat) : Int) (D : Int) (N : Int) T (D : Int) (N : Int) _ r.1 r.2.1) hfr ih
theorem step_l0 (hb : ∀ w ∈ allW D (N + 1) 0, ∀ i, i ≤ w.size + 1 → (cv A (expA (ltr n) (sgn n) (N + 1)) w.toList i).natAbs ≤ 1000000000) : ∀ (rest pre : List ByteArray), pre ++ rest = allW D (N + 1) 0 →
 Ev (fun k => spec_l09Step.l0 k (wbyte (n.natAbs - 1)) (sgn n) (((partT (allW D (N + 1) 0) (tabP (allW D (N + 1) 0) A) 0 pre.length).length : Nat) : Int) (D : Int) (N : Int) (termsOf (allW D (N + 1) 0) (tabP (allW D (N + 1) 0) A) (allW D (N + 1) 0).length) (D : Int) (N : Int) (termsOf (allW D (N + 1) 0) (tabP (allW D (N + 1) 0) (sumT A (expA (ltr n) (sgn n) (N + 1)) pre)) (allW D (N + 1) 0).length))
  ((D : Int), (N : Int), termsOf (allW D (N + 1) 0) (tabP (allW D (N + 1) 0) (sumT A (expA (ltr n) (sgn n) (N + 1)) (allW D (N + 1) 0))) (allW D (N + 1) 0).length)
 | [], pre, h => by
  rw [List.append_nil] at h
  rw [h, termsOf_part, termsOf_part]
  refine Ev.step (f := fun _ => some ((D : Int), (N : Int), partT (allW D (N + 1) 0) (tabP (allW D (N + 1) 0) (sumT A (expA (ltr n) (sgn n) (N + 1)) (allW D (N + 1) 0))) 0 (allW D (N + 1) 0).length)) (fun k => ?_) (Ev.now _)
  rw [spec_l09Step.l0, if_neg (by omega)]
 | v :: rest, pre, h => by
  have hbl := lvlOk_bounds hl
  have hj : (allW D (N + 1) 0)[pre.length]? = some v := by rw [← h]; simp
  have hvm : v ∈ allW D (N + 1) 0 := List.mem_of_getElem? hj
  obtain ⟨hjl, hje⟩ := List.getElem?_eq_some_iff.1 hj
  have hok := allW_ok D (by omega) N
  obtain ⟨hv, hvs⟩ := hok v hvm
  have ih := step_l0 hb rest (pre ++ [v]) (by rw [← h]; simp)
  have hw := allW_length D N hl
  have hrd := tabP_rd (allW D (N + 1) 0) A pre.length v hj
  have hrw : rdOf ByteArray.empty (allW D (N + 1) 0) (pre.length : Int) = v := by rw [rdOf_nat _ _ hjl, hje]
  obtain ⟨e, he⟩ : ∃ e, (allW D (N + 1) 0).length = pre.length + 1 + e := ⟨(allW D (N + 1) 0).length - (pre.length + 1), by omega⟩
  have hsp := partT_split (allW D (N + 1) 0) (tabP (allW D (N + 1) 0) A) pre.length 0
  rw [Nat.add_zero, show partT (allW D (N + 1) 0) (tabP (allW D (N + 1) 0) A) (pre.length + 1) 0 = [] from by simp [partT], List.append_nil, hrd, hrw] at hsp
  have hfull := partT_split (allW D (N + 1) 0) (tabP (allW D (N + 1) 0) A) pre.length e
  rw [← he, hrd, hrw] at hfull
  rw [List.length_append, List.length_singleton, hsp] at ih
  have hsum : ∀ w, sumT A (expA (ltr n) (sgn n) (N + 1)) (pre ++ [v]) w = sumT A (expA (ltr n) (sgn n) (N + 1)) pre w + addT A (expA (ltr n) (sgn n) (N + 1)) v.toList w := fun w => by
   rw [sumT_append, sumT, sumT, Int.add_zero]
  by_cases hz : A v.toList = 0
  ·have h0 : (valP A v).f0 = 0 := (valP_num A v).2 hz
   have e1 : tabP (allW D (N + 1) 0) (sumT A (expA (ltr n) (sgn n) (N + 1)) (pre ++ [v])) = tabP (allW D (N + 1) 0) (sumT A (expA (ltr n) (sgn n) (N + 1)) pre) := tabP_congr _ _ _ (fun w _ => by
    rw [hsum]
    unfold addT
    rw [hz]
    simp)
   rw [e1, oneT, if_pos h0, List.append_nil] at ih
   exact ih
  ·have h0 : ¬ (valP A v).f0 = 0 := fun h2 => hz ((valP_num A v).1 h2)
   rw [oneT, if_neg h0, List.length_append, List.length_singleton] at ih
   rw [oneT, if_neg h0] at hfull
   have hpl := partT_length (allW D (N + 1) 0) (tabP (allW D (N + 1) 0) A) pre.length 0
   have hF : ∀ (l1 l2 : List ByteArray), l1 ++ l2 = allW D (N + 1) 0 → ∀ w ∈ allW D (N + 1) 0, (sumT A (expA (ltr n) (sgn n) (N + 1)) l1 w.toList).natAbs ≤ 1000000000 := fun l1 l2 h3 w hwm => by
    obtain ⟨i, hi, e4⟩ := sumT_pre A (expA (ltr n) (sgn n) (N + 1)) D (by omega) w (hok w hwm).1 (N + 1) 0 l1 l2 h3
    rw [Nat.zero_min, cv, Int.zero_add] at e4
    rw [e4]
    exact hb w hwm i hi
   have hl1 := step_l1 hl hA hn v hv hvs (termsOf (allW D (N + 1) 0) (tabP (allW D (N + 1) 0) A) (allW D (N + 1) 0).length) (partT (allW D (N + 1) 0) (tabP (allW D (N + 1) 0) A) 0 pre.length).length (by omega) (sumT A (expA (ltr n) (sgn n) (N + 1)) pre) (hF pre (v :: rest) h) (fun w hwm => by
    have := hF (pre ++ [v]) rest (by rw [← h]; simp) w hwm
    rw [hsum] at this
    exact this) (by
    rw [show (fun w => sumT A (expA (ltr n) (sgn n) (N + 1)) pre w + addT A (expA (ltr n) (sgn n) (N + 1)) v.toList w) = sumT A (expA (ltr n) (sgn n) (N + 1)) (pre ++ [v]) from (funext hsum).symm]
    exact ih) (N + 1 - v.size) 0 v (by omega) (by simp [rp])
   have e2 : tabP (allW D (N + 1) 0) (midA (sumT A (expA (ltr n) (sgn n) (N + 1)) pre) (addT A (expA (ltr n) (sgn n) (N + 1)) v.toList) (v.size + 0)) = tabP (allW D (N + 1) 0) (sumT A (expA (ltr n) (sgn n) (N + 1)) pre) := tabP_congr _ _ _ (fun w _ => by
    unfold midA
    split
    ·rename_i h5
     unfold addT
     rw [if_neg (fun h6 => by have := h6.1; rw [tl_length v] at this; omega), Int.add_zero]
    ·rfl)
   have e3 : frP (A v.toList * sgn n ^ 0) (fct v.size * fct 0) = valP A v := by
    unfold valP
    rw [Int.pow_zero, Int.mul_one, show fct 0 = 1 from rfl, Nat.mul_one]
   rw [e2, e3] at hl1
   refine Ev.step (fun k => ?_) hl1
   have hT : rd_T89 (termsOf (allW D (N + 1) 0) (tabP (allW D (N + 1) 0) A) (allW D (N + 1) 0).length) (((partT (allW D (N + 1) 0) (tabP (allW D (N + 1) 0) A) 0 pre.length).length : Nat) : Int) = ⟨v, valP A v⟩ := by
    rw [termsOf_part, hfull]
    simp [rd_T89]
   have hTl : (partT (allW D (N + 1) 0) (tabP (allW D (N + 1) 0) A) 0 pre.length).length < (termsOf (allW D (N + 1) 0) (tabP (allW D (N + 1) 0) A) (allW D (N + 1) 0).length).length := by
    rw [termsOf_part, hfull]
    simp
   rw [spec_l09Step.l0, if_pos (by omega), if_pos (by omega), hT]
   rfl
theorem step_f (hb : ∀ w ∈ allW D (N + 1) 0, ∀ i, i ≤ w.size + 1 → (cv A (expA (ltr n) (sgn n) (N + 1)) w.toList i).natAbs ≤ 1000000000) :
 Ev (fun k => spec_l09Step.f k (D : Int) (N : Int) (termsOf (allW D (N + 1) 0) (tabP (allW D (N + 1) 0) A) (allW D (N + 1) 0).length) n)
  ((D : Int), (N : Int), termsOf (allW D (N + 1) 0) (tabP (allW D (N + 1) 0) (conv A (expA (ltr n) (sgn n) (N + 1)))) (allW D (N + 1) 0).length) := by
 have hbl := lvlOk_bounds hl
 have hok := allW_ok D (by omega) N
 have h0 := step_l0 hl hA hn hb (allW D (N + 1) 0) [] rfl
 have e1 : tabP (allW D (N + 1) 0) (sumT A (expA (ltr n) (sgn n) (N + 1)) (allW D (N + 1) 0)) = tabP (allW D (N + 1) 0) (conv A (expA (ltr n) (sgn n) (N + 1))) := tabP_congr _ _ _ (fun w hw => by
  have := sumT_all A (expA (ltr n) (sgn n) (N + 1)) D (by omega) w (hok w hw).1 (N + 1) 0
  rw [Nat.zero_min, cv, Int.zero_add] at this
  rw [this]
  unfold conv
  rw [tl_length, Nat.zero_add, Nat.min_eq_right (by have := (hok w hw).2; omega)])
 have e2 : termsOf (allW D (N + 1) 0) (tabP (allW D (N + 1) 0) (sumT A (expA (ltr n) (sgn n) (N + 1)) [])) (allW D (N + 1) 0).length = [] := by
  rw [termsOf_part]
  refine partT_nil _ _ _ _ (fun j _ hj => ?_)
  have hj2 : j < (allW D (N + 1) 0).length := by omega
  rw [tabP_rd _ _ j _ (List.getElem?_eq_getElem hj2), valP_num]
  rfl
 rw [e1, e2, show partT (allW D (N + 1) 0) (tabP (allW D (N + 1) 0) A) 0 ([] : List ByteArray).length = [] from by simp [partT]] at h0
 have e3 : strOfNums [(wrap64 ((wrap64 (48 + (mx n (wrap64 (-n))))) - 1)) % 256] = wbyte (n.natAbs - 1) := by
  rw [wrap_of (-n) (by omega) (by omega)]
  have hm : mx n (-n) = (n.natAbs : Int) := by unfold mx; omega
  rw [hm, wrap_of (48 + (n.natAbs : Int)) (by omega) (by omega), wrap_of _ (by omega) (by omega)]
  unfold wbyte
  congr 2
  omega
 refine Ev.congr (f := fun k => spec_l09Step.j0 k (wbyte (n.natAbs - 1)) (sgn n) (D : Int) (N : Int) (termsOf (allW D (N + 1) 0) (tabP (allW D (N + 1) 0) A) (allW D (N + 1) 0).length) (D : Int) (N : Int) ([] : List S89)) (fun k => ?_) ?_
 ·unfold spec_l09Step.f spec_l01Empty.f
  rw [Option.bind_some, Option.bind_some, e3]
  unfold sgn
  by_cases h : n < 0
  ·rw [if_pos h, if_neg (by omega)]
  ·rw [if_neg h, if_pos (by omega)]
 ·exact Ev.step (fun k => by rw [spec_l09Step.j0]; rfl) h0
end
theorem unit_terms {D N : Nat} (hl : lvlOk (D : Int) (N : Int) = true) : termsOf (allW D (N + 1) 0) (tabP (allW D (N + 1) 0) unitA) (allW D (N + 1) 0).length = [⟨⟨#[]⟩, ⟨1, 1⟩⟩] := by
 have hbl := lvlOk_bounds hl
 obtain ⟨R, hR, hR2⟩ := allW_two D N (by omega)
 have h0 : (allW D (N + 1) 0)[0]? = some ⟨#[]⟩ := by rw [hR]; rfl
 have hlen := allW_length D N hl
 obtain ⟨q, hq⟩ : ∃ q, (allW D (N + 1) 0).length = 0 + 1 + q := ⟨(allW D (N + 1) 0).length - 1, by omega⟩
 rw [termsOf_part, hq, partT_split, partT_nil _ _ q (0 + 1) (fun j h1 h2 => ?_), tabP_rd _ _ 0 _ h0, rdOf_nat _ 0 (by omega), (List.getElem?_eq_some_iff.1 h0).2]
 ·have e0 : (⟨#[]⟩ : ByteArray).toList = [] := by simp [ByteArray.toList_eq]
  have e1 : valP unitA ⟨#[]⟩ = ⟨1, 1⟩ := by
   unfold valP unitA
   rw [e0, if_pos rfl]
   exact frP_one 1
  rw [e1, oneT, if_neg (by decide)]
  simp [partT]
 ·have hj : j < (allW D (N + 1) 0).length := by omega
  rw [tabP_rd _ _ j _ (List.getElem?_eq_getElem hj), valP_num]
  unfold unitA
  rw [if_neg (fun e2 => ?_)]
  have e0 : (⟨#[]⟩ : ByteArray).toList = [] := by simp [ByteArray.toList_eq]
  have : (allW D (N + 1) 0)[j] = ⟨#[]⟩ := tl_inj (e2.trans e0.symm)
  have := allW_inj D (by omega) N j 0 ⟨#[]⟩ (List.getElem?_eq_some_iff.2 ⟨hj, this⟩) h0
  omega
end Go.Proofs.Ytcklefgkbddlhaa.Pure
