/- Plain lemmas: fractions in lowest terms, and tables of them, as the program reckons with them. -/
import Derived.Test.YtcklefgkbddlhaaBaseX
import Derived.Test.YtcklefgkbddlhaaBaseTm
import Derived.Test.YtcklefgkbddlhaaTabR
namespace Go.Proofs.Ytcklefgkbddlhaa.Pure
open Go.RowKit Go.Proofs.Ytcklefgkbddlhaa.P Go.Proofs.Ytcklefgkbddlhaa.Tab Go.Proofs.YtcklefgkbddlhaaW.PrintWords Go.Proofs.YtcklefgkbddlhaaW.PrintLast
set_option linter.unusedVariables false
set_option linter.unusedSimpArgs false

theorem redF_parts (a n : Int) (hn : 1 ≤ n) : ∃ g, 1 ≤ g ∧ a = g * (redF a n).1 ∧ n = g * (redF a n).2 ∧ 1 ≤ (redF a n).2 ∧ Int.gcd (redF a n).1 (redF a n).2 = 1 := by
  have h0 := gcd_ne (a := a) hn
  have hg : 1 ≤ ((Int.gcd a n : Nat) : Int) := by omega
  have e1 : a = ((Int.gcd a n : Nat) : Int) * (redF a n).1 := (Int.mul_tdiv_cancel' (Int.gcd_dvd_left a n)).symm
  have e2 : n = ((Int.gcd a n : Nat) : Int) * (redF a n).2 := (Int.mul_tdiv_cancel' (Int.gcd_dvd_right a n)).symm
  refine ⟨_, hg, e1, e2, ?_, ?_⟩
  · generalize (redF a n).2 = y at e2
    generalize ((Int.gcd a n : Nat) : Int) = g at hg e2
    by_cases h : 1 ≤ y
    · exact h
    · have := Int.mul_le_mul_of_nonneg_left (show y ≤ 0 by omega) (show 0 ≤ g by omega)
      omega
  · have h1 : Int.gcd a n = ((Int.gcd a n : Nat) : Int).natAbs * Int.gcd (redF a n).1 (redF a n).2 := by
      refine Eq.trans ?_ (Int.gcd_mul_left _ _ _)
      rw [← e1, ← e2]
    rw [Int.natAbs_natCast] at h1
    exact Nat.eq_of_mul_eq_mul_left (show 0 < Int.gcd a n by omega) (by rw [← h1, Nat.mul_one])
theorem redF_eq (a n b m : Int) (hn : 1 ≤ n) (hm : 1 ≤ m) (h : a * m = b * n) : redF a n = redF b m := by
  rw [← redF_scale m a n (by omega), ← redF_scale n b m (by omega), Int.mul_comm m a, h, Int.mul_comm n b, Int.mul_comm m n]
/-- The fraction a / n. -/
def frP (a : Int) (n : Nat) : S27 := ⟨(redF a n).1, (redF a n).2⟩
theorem frP_eq (a b : Int) (n m : Nat) (hn : 1 ≤ n) (hm : 1 ≤ m) (h : a * m = b * n) : frP a n = frP b m := by
  unfold frP
  rw [redF_eq a n b m (by omega) (by omega) h]
theorem frP_zero (n : Nat) (hn : 1 ≤ n) : frP 0 n = ⟨0, 1⟩ := by
  unfold frP
  rw [redF_zero n (by omega)]
theorem frP_one (a : Int) : frP a 1 = ⟨a, 1⟩ := by
  unfold frP redF
  rw [show ((1 : Nat) : Int) = 1 from rfl, Int.gcd_one]
  simp
theorem frP_num (a : Int) (n : Nat) (hn : 1 ≤ n) : (frP a n).f0 = 0 ↔ a = 0 := by
  obtain ⟨g, hg, e1, _⟩ := redF_parts a n (by omega)
  unfold frP
  dsimp only
  refine ⟨fun h => by rw [e1, h, Int.mul_zero], fun h => by rw [h, redF_zero n (by omega)]⟩
theorem frP_fit (a : Int) (n : Nat) (hn : 1 ≤ n) (ha : a.natAbs ≤ 1000000000) (hn2 : n ≤ 1000000000) : okF2 (frP a n) := by
  obtain ⟨g, hg, e1, e2, h1, h2⟩ := redF_parts a n (by omega)
  unfold okF2 frP
  dsimp only
  generalize (redF a n).1 = x at e1 h2 ⊢
  generalize (redF a n).2 = y at e2 h1 h2 ⊢
  have b1 : y ≤ n := by
    have := Int.mul_le_mul_of_nonneg_right hg (show 0 ≤ y by omega)
    omega
  have b2 : x.natAbs ≤ a.natAbs := by
    rw [e1, Int.natAbs_mul]
    exact Nat.le_mul_of_pos_left _ (by omega)
  unfold fitF
  simp only [Bool.and_eq_true, decide_eq_true_eq]
  refine ⟨⟨h1, by omega⟩, ⟨by omega, by omega⟩, h2⟩
theorem frP_times (a b : Int) (n m : Nat) (hn : 1 ≤ n) (hm : 1 ≤ m) : timesF (frP a n) (frP b m) = frP (a * b) (n * m) := by
  obtain ⟨g, hg, a1, n1, p1, _⟩ := redF_parts a n (by omega)
  obtain ⟨h, hh, b1, m1, q1, _⟩ := redF_parts b m (by omega)
  have hnm : 1 ≤ n * m := Nat.mul_le_mul hn hm
  unfold timesF frP
  dsimp only
  have e : redF ((redF a n).1 * (redF b m).1) ((redF a n).2 * (redF b m).2) = redF (a * b) ((n * m : Nat) : Int) := by
    generalize (redF a n).1 = x0 at a1 ⊢
    generalize (redF a n).2 = x1 at n1 p1 ⊢
    generalize (redF b m).1 = y0 at b1 ⊢
    generalize (redF b m).2 = y1 at m1 q1 ⊢
    refine redF_eq _ _ _ _ ?_ (by omega) ?_
    · have := Int.mul_le_mul p1 q1 (by omega) (by omega)
      omega
    · rw [Int.natCast_mul, a1, n1, b1, m1]
      ac_rfl
  rw [e]
theorem frP_plus (a b : Int) (n : Nat) (hn : 1 ≤ n) : plusF (frP a n) (frP b n) = frP (a + b) n := by
  obtain ⟨g, hg, a1, n1, p1, _⟩ := redF_parts a n (by omega)
  obtain ⟨h, hh, b1, m1, q1, _⟩ := redF_parts b n (by omega)
  unfold plusF frP
  dsimp only
  have e : redF ((redF a n).1 * (redF b n).2 + (redF b n).1 * (redF a n).2) ((redF a n).2 * (redF b n).2) = redF (a + b) (n : Int) := by
    generalize (redF a n).1 = x0 at a1 ⊢
    generalize (redF a n).2 = x1 at n1 p1 ⊢
    generalize (redF b n).1 = y0 at b1 ⊢
    generalize (redF b n).2 = y1 at m1 q1 ⊢
    refine redF_eq _ _ _ _ ?_ (by omega) ?_
    · have := Int.mul_le_mul p1 q1 (by omega) (by omega)
      omega
    · rw [Int.add_mul, Int.add_mul]
      congr 1
      · rw [a1]
        conv => lhs; rw [n1]
        ac_rfl
      · rw [b1]
        conv => lhs; rw [m1]
        ac_rfl
  rw [e]
/-- The table with the values A(w) / |w|!. -/
def valP (A : List UInt8 → Int) (w : ByteArray) : S27 := frP (A w.toList) (fct w.size)
def tabP (ws : List ByteArray) (A : List UInt8 → Int) : List S27 := ws.map (valP A)
theorem tabP_length (ws : List ByteArray) (A : List UInt8 → Int) : (tabP ws A).length = ws.length := by simp [tabP]
theorem rdF_nat (l : List S27) (i : Nat) (h : i < l.length) : rd_T27 l (i : Int) = l[i] := by simp [rd_T27, h]
theorem tabP_rd (ws : List ByteArray) (A : List UInt8 → Int) (i : Nat) (v : ByteArray) (h : ws[i]? = some v) : rd_T27 (tabP ws A) (i : Int) = valP A v := by
  obtain ⟨hl, e⟩ := List.getElem?_eq_some_iff.1 h
  rw [rdF_nat _ i (by rw [tabP_length]; exact hl)]
  simp [tabP, e]
theorem addV_true (vs : List S27) (i : Nat) (x : S27) : addV vs i x.f0 x.f1 true = vs.set i x := by
  unfold addV sel; simp
theorem impl_times_f (x y : S27) (hx : okF2 x) (hy : okF2 y) : Ev (fun k => impl_Fraction_times.f k x.f0 x.f1 y.f0 y.f1) ((timesF x y).f0, (timesF x y).f1, fitF (timesF x y).f0 (timesF x y).f1) := by
  obtain ⟨h1, h2, h3, h4, h5⟩ := num_t x y hx hy
  unfold impl_Fraction_times.f
  rw [wrap_of (x.f0 * y.f0) (by omega) (by omega), wrap_of (x.f1 * y.f1) (by omega) (by omega)]
  refine Ev.bind (f := fun _ bt => some (bt.1, bt.2.1, bt.2.2)) (impl_red_f (x.f0 * y.f0) (x.f1 * y.f1) (by omega) h2 (by omega)) ?_
  exact Ev.now _
theorem set_mid {α : Type} (L R : List α) (x y : α) (i : Nat) (h : L.length = i) : (L ++ x :: R).set i y = L ++ y :: R := by
  subst h
  simp
theorem take_snoc {α : Type} (l : List α) (i : Nat) (h : i < l.length) : l.take (i + 1) = l.take i ++ [l[i]] := by
  rw [List.take_add_one, List.getElem?_eq_getElem h]
  rfl
/-- Multiples of all values. -/
theorem scaledL_ev (ts : List S27) (a0 a1 : Int) (g : S27 → S27) (hg : ∀ x ∈ ts, Ev (fun k => impl_Fraction_times.f k x.f0 x.f1 a0 a1) ((g x).f0, (g x).f1, true)) (bad : Bool) :
    ∀ e i, i + e = ts.length → Ev (fun k => scaledL k ts a0 a1 e i ((ts.take i).map g ++ List.replicate e ⟨0, 1⟩) bad) (ts.map g, bad)
  | 0, i, h => by
    rw [List.take_of_length_le (by omega), List.replicate_zero, List.append_nil]
    exact Ev.now _
  | e + 1, i, h => by
    have hlt : i < ts.length := by omega
    have ih := scaledL_ev ts a0 a1 g hg bad e (i + 1) (by omega)
    refine Ev.bind (f := fun k s => scaledL k ts a0 a1 e (i + 1) (addV ((ts.take i).map g ++ List.replicate (e + 1) ⟨0, 1⟩) i s.1 s.2.1 s.2.2) (bad || !s.2.2)) (g := fun k => impl_Fraction_times.f k (rd_T27 ts (i : Int)).f0 (rd_T27 ts (i : Int)).f1 a0 a1) (a := ((g ts[i]).f0, (g ts[i]).f1, true)) ?_ ?_
    · rw [rdF_nat ts i hlt]
      exact hg _ (List.getElem_mem hlt)
    · have e1 : addV ((ts.take i).map g ++ List.replicate (e + 1) ⟨0, 1⟩) i (g ts[i]).f0 (g ts[i]).f1 true = (ts.take (i + 1)).map g ++ List.replicate e ⟨0, 1⟩ := by
        rw [addV_true, List.replicate_succ, set_mid _ _ _ _ i (by rw [List.length_map, List.length_take]; omega), take_snoc ts i hlt, List.map_append, List.append_assoc]
        rfl
      dsimp only
      rw [e1, Bool.not_true, Bool.or_false]
      exact ih
/-- Sums of all values. -/
theorem sumL_ev (ts us : List S27) (hl : us.length = ts.length) (rs : List S27) (hr : rs.length = ts.length) (hg : ∀ i (h : i < ts.length), Ev (fun k => impl_Fraction_plus.f k ts[i].f0 ts[i].f1 us[i].f0 us[i].f1) (rs[i].f0, rs[i].f1, true)) (bad : Bool) :
    ∀ e i, i + e = ts.length → Ev (fun k => sumL k ts us e i (rs.take i ++ List.replicate e ⟨0, 1⟩) bad) (rs, bad)
  | 0, i, h => by
    rw [List.take_of_length_le (by omega), List.replicate_zero, List.append_nil]
    exact Ev.now _
  | e + 1, i, h => by
    have hlt : i < ts.length := by omega
    have hlt2 : i < us.length := by omega
    have hlt3 : i < rs.length := by omega
    have ih := sumL_ev ts us hl rs hr hg bad e (i + 1) (by omega)
    refine Ev.bind (f := fun k s => sumL k ts us e (i + 1) (addV (rs.take i ++ List.replicate (e + 1) ⟨0, 1⟩) i s.1 s.2.1 s.2.2) (bad || !s.2.2)) (g := fun k => impl_Fraction_plus.f k (rd_T27 ts (i : Int)).f0 (rd_T27 ts (i : Int)).f1 (rd_T27 us (i : Int)).f0 (rd_T27 us (i : Int)).f1) (a := (rs[i].f0, rs[i].f1, true)) ?_ ?_
    · rw [rdF_nat ts i hlt, rdF_nat us i hlt2]
      exact hg i hlt
    · have e1 : addV (rs.take i ++ List.replicate (e + 1) ⟨0, 1⟩) i rs[i].f0 rs[i].f1 true = rs.take (i + 1) ++ List.replicate e ⟨0, 1⟩ := by
        rw [addV_true, List.replicate_succ, set_mid _ _ _ _ i (by rw [List.length_take]; omega), take_snoc rs i hlt3, List.append_assoc]
        rfl
      dsimp only
      rw [e1, Bool.not_true, Bool.or_false]
      exact ih
end Go.Proofs.Ytcklefgkbddlhaa.Pure
