/- Plain lemmas: are all sums of two sequences the same? -/
import Derived.Test.YtbpipmkgclkhgaaPx5
import Derived.Test.YtbpipmkgclkhgaaPx8
import Derived.Test.YtbpipmkgclkhgaaBaseSums
import Derived.Test.YtbpipmkgclkhgaaBaseWords
namespace Go.Proofs.Ytbpipmkgclkhgaa.Pure
open Go.RowKit Go.Proofs.Ytbpipmkgclkhgaa.P Go.Proofs.YtbpipmkgclkhgaaW.PrintWords Go.Proofs.YtbpipmkgclkhgaaW.PrintLast
set_option linter.unusedVariables false
set_option linter.unusedSimpArgs false

def sameW (a b : List (List Int)) (w : ByteArray) : Bool := decide (wrap64 (sumB false (lets w w.size 0) a) = wrap64 (sumB false (lets w w.size 0) b))
def orS (z : Bool) (R : Bool × Int) : Bool × Int := if z = true then R else (false, 0)
theorem orS_and (x y : Bool) (R : Bool × Int) : orS x (orS y R) = orS (x && y) R := by cases x <;> cases y <;> rfl
structure Two (d : Nat) (a b : List (List Int)) : Prop where
  d3 : d ≤ 3
  la : a.length ≤ 12
  lb : b.length ≤ 12
  ra : ∀ r ∈ a, (r.length : Int) = (d : Int)
  rb : ∀ r ∈ b, (r.length : Int) = (d : Int)
theorem ok_fits {d : Nat} (hd : d ≤ 3) {w : ByteArray} (h : okW d w) {r : List Int} (hr : (r.length : Int) = (d : Int)) : fits r.length w := by
  intro i hi
  have := h i hi
  omega
theorem same_l1 {d : Nat} {a b : List (List Int)} (T : Two d a b) (lev n : Int) (ws : List ByteArray) (hws : ∀ w ∈ ws, w.size ≤ 5 ∧ okW d w) (hl : ws.length ≤ 1000) (R : Bool × Int) (m : Nat) (hm : 300 ≤ m) (hT : ∀ k, m ≤ k → spec_SameSums.l0 k (d : Int) lev a b (wrap64 (n + 1)) = some R) : ∀ e k i, i + e = ws.length → m + e + 1 ≤ k →
    spec_SameSums.l1 k (d : Int) lev a b n ws (i : Int) = some (orS ((ws.drop i).all (sameW a b)) R) := by
  intro e
  induction e with
  | zero =>
    intro k i h hk
    obtain ⟨k, rfl⟩ : ∃ q, k = q + 1 := ⟨k - 1, by omega⟩
    rw [spec_SameSums.l1, if_neg (by omega), hT k (by omega), List.drop_of_length_le (by omega)]
    rfl
  | succ e ih =>
    intro k i h hk
    obtain ⟨k, rfl⟩ : ∃ q, k = q + 1 := ⟨k - 1, by omega⟩
    have hi : i < ws.length := by omega
    obtain ⟨hs, ho⟩ := hws _ (List.getElem_mem hi)
    rw [spec_SameSums.l1, if_pos (by omega), if_pos (by omega), rdOf_nat ws i hi, spec_l10Sum_f k _ false a hs T.la (fun r hr => ok_fits T.d3 ho (T.ra r hr)) (by omega), Option.bind_some, spec_l10Sum_f k _ false b hs T.lb (fun r hr => ok_fits T.d3 ho (T.rb r hr)) (by omega), Option.bind_some, wrap_nat _ (by omega), ih k (i + 1) (by omega) (by omega), List.drop_eq_getElem_cons hi, List.all_cons]
    by_cases e1 : wrap64 (sumB false (lets ws[i] ws[i].size 0) a) = wrap64 (sumB false (lets ws[i] ws[i].size 0) b)
    · rw [if_pos e1, show sameW a b ws[i] = true from decide_eq_true e1, Bool.true_and]
    · rw [if_neg e1, show sameW a b ws[i] = false from decide_eq_false e1, Bool.false_and]; rfl
theorem same_l0 {d : Nat} {a b : List (List Int)} (T : Two d a b) (lev : Nat) (hlev : lev ≤ 5) : ∀ e k n, n + e = lev + 1 → 30000 + e * 300 ≤ k →
    spec_SameSums.l0 k (d : Int) (lev : Int) a b (n : Int) = some (orS ((allW d e n).all (sameW a b)) (true, 0)) := by
  intro e
  induction e with
  | zero =>
    intro k n h hk
    obtain ⟨k, rfl⟩ : ∃ q, k = q + 1 := ⟨k - 1, by omega⟩
    rw [spec_SameSums.l0, if_neg (by omega)]
    rfl
  | succ e ih =>
    intro k n h hk
    obtain ⟨k, rfl⟩ : ∃ q, k = q + 1 := ⟨k - 1, by omega⟩
    have hs := wordsN_small d T.d3 n (by omega)
    rw [spec_SameSums.l0, if_pos (by omega), spec_l01Words_f k d n T.d3 (by omega) (by omega), Option.bind_some]
    have := same_l1 T (lev : Int) (n : Int) (wordsN d n) (fun w hw => ⟨by rw [wordsN_size d n w hw]; omega, wordsN_ok d T.d3 n w hw⟩) (by omega) _ (30000 + e * 300) (by omega) (fun k hk => by rw [wrap_nat _ (by omega)]; exact ih k (n + 1) (by omega) hk) (wordsN d n).length k 0 (by omega) (by omega)
    rw [show spec_SameSums.l1 k (d : Int) (lev : Int) a b (n : Int) (wordsN d n) 0 = _ from this, orS_and, List.drop_zero, allW, List.all_append]
theorem isame_l0 {d : Nat} {a b : List (List Int)} (T : Two d a b) (ws : List ByteArray) (hws : ∀ w ∈ ws, w.size ≤ 5 ∧ okW d w) (hl : ws.length ≤ 100000) : ∀ e k i, i + e = ws.length → 300 + e ≤ k →
    impl_SameSums.l0 k a b ws (ws.length : Int) (i : Int) = some (orS ((ws.drop i).all (sameW a b)) (true, 0)) := by
  intro e
  induction e with
  | zero =>
    intro k i h hk
    obtain ⟨k, rfl⟩ : ∃ q, k = q + 1 := ⟨k - 1, by omega⟩
    rw [impl_SameSums.l0, if_neg (by omega), List.drop_of_length_le (by omega)]
    rfl
  | succ e ih =>
    intro k i h hk
    obtain ⟨k, rfl⟩ : ∃ q, k = q + 1 := ⟨k - 1, by omega⟩
    have hi : i < ws.length := by omega
    obtain ⟨hs, ho⟩ := hws _ (List.getElem_mem hi)
    rw [impl_SameSums.l0, if_pos (by omega), if_pos (by omega), if_pos (by omega), rdOf_nat ws i hi, impl_sumAt_f k _ false a hs T.la (fun r hr => ok_fits T.d3 ho (T.ra r hr)) (by omega), Option.bind_some, impl_sumAt_f k _ false b hs T.lb (fun r hr => ok_fits T.d3 ho (T.rb r hr)) (by omega), Option.bind_some, wrap_nat _ (by omega), ih k (i + 1) (by omega) (by omega), List.drop_eq_getElem_cons hi, List.all_cons]
    by_cases e1 : wrap64 (sumB false (lets ws[i] ws[i].size 0) a) = wrap64 (sumB false (lets ws[i] ws[i].size 0) b)
    · rw [if_pos e1, show sameW a b ws[i] = true from decide_eq_true e1, Bool.true_and]
    · rw [if_neg e1, show sameW a b ws[i] = false from decide_eq_false e1, Bool.false_and]; rfl
theorem allW_ok (d : Nat) (hd : d ≤ 3) : ∀ e m, m + e ≤ 6 → (∀ w ∈ allW d e m, w.size ≤ 5 ∧ okW d w) ∧ (allW d e m).length ≤ e * 243 := by
  intro e
  induction e with
  | zero => intro m h; exact ⟨fun w hw => (by cases hw), by simp [allW]⟩
  | succ e ih =>
    intro m h
    obtain ⟨h1, h2⟩ := ih (m + 1) (by omega)
    refine ⟨fun w hw => ?_, ?_⟩
    · rcases List.mem_append.1 hw with hw | hw
      · exact ⟨by rw [wordsN_size d m w hw]; omega, wordsN_ok d hd m w hw⟩
      · exact h1 w hw
    · have := wordsN_small d hd m (by omega)
      rw [allW, List.length_append]; omega
def levB (d n : Int) : Bool := (decide (1 ≤ d) && decide (d ≤ 3)) && ((decide (1 ≤ n) && decide (n ≤ 5)) && (decide (d < 3) || decide (n < 5)))
theorem spec_l02Level_f (d n : Int) : spec_l02Level.f d n = some (levB d n) := by
  unfold spec_l02Level.f levB
  rw [spec_l01In_f, Option.bind_some, spec_l01In_f, Option.bind_some]
  cases (decide (1 ≤ d) && decide (d ≤ 3)) <;> cases (decide (1 ≤ n) && decide (n ≤ 5)) <;> by_cases h : d < 3 <;> simp [h]
theorem impl_isLevel_f (d n : Int) : impl_isLevel.f d n = some (levB d n) := by
  unfold impl_isLevel.f levB
  have h1 : impl_areLetters.f d = some (decide (1 ≤ d) && decide (d ≤ 3)) := by
    unfold impl_areLetters.f impl_within.f
    by_cases h : 1 ≤ d <;> simp [h]
  have h2 : impl_within.f n 1 5 = some (decide (1 ≤ n) && decide (n ≤ 5)) := by
    unfold impl_within.f
    by_cases h : 1 ≤ n <;> simp [h]
  rw [h1, Option.bind_some, h2, Option.bind_some]
  cases (decide (1 ≤ d) && decide (d ≤ 3)) <;> cases (decide (1 ≤ n) && decide (n ≤ 5)) <;> by_cases h : d < 3 <;> simp [h]
def sameRes (d n : Int) (a b : List (List Int)) : Bool × Int :=
  if (isPth d a && isPth d b) = true then (if levB d n = true then orS ((allW d.toNat n.toNat 1).all (sameW a b)) (true, 0) else (false, 2)) else (false, 1)
theorem two_of {d : Int} {a b : List (List Int)} (ha : isPth d a = true) (hb : isPth d b = true) : (d.toNat : Int) = d ∧ Two d.toNat a b := by
  obtain ⟨a1, a2, a3, a4⟩ := isPth_bounds ha
  obtain ⟨b1, b2, b3, b4⟩ := isPth_bounds hb
  have h : (d.toNat : Int) = d := by omega
  exact ⟨h, by omega, a3, b3, by rw [h]; exact a4, by rw [h]; exact b4⟩
theorem lev_of {d n : Int} (h : levB d n = true) : 1 ≤ n ∧ n ≤ 5 := by
  unfold levB at h
  simp only [Bool.and_eq_true, decide_eq_true_eq] at h
  exact h.2.1
theorem spec_SameSums_f (k : Nat) (d n : Int) (a b : List (List Int)) (hk : 40000 ≤ k) (ha : a.length ≤ 4000000) (hb : b.length ≤ 4000000) : spec_SameSums.f k d n a b = some (sameRes d n a b) := by
  unfold spec_SameSums.f spec_l04Code.f sameRes
  obtain ⟨k, rfl⟩ : ∃ q, k = q + 3 := ⟨k - 3, by omega⟩
  have r0 : rd_L4 [a, b] 0 = a := rfl
  have r1 : rd_L4 [a, b] 1 = b := rfl
  have w1 : wrap64 (0 + 1) = 1 := by unfold wrap64; omega
  have w2 : wrap64 (1 + 1) = 2 := by unfold wrap64; omega
  have P1 := spec_l04Is_f (k + 2) d a (by omega) ha
  have P2 := spec_l04Is_f (k + 1) d b (by omega) hb
  have L := spec_l02Level_f d n
  have c0 : ((0 : Int) < (([a, b] : List (List (List Int))).length : Int)) = True := eq_true (by simp)
  have c1 : ((1 : Int) < (([a, b] : List (List (List Int))).length : Int)) = True := eq_true (by simp)
  have c2 : ((2 : Int) < (([a, b] : List (List (List Int))).length : Int)) = False := eq_false (by simp)
  have z0 : ((0 : Int) ≤ 0) = True := eq_true (by omega)
  have z1 : ((0 : Int) ≤ 1) = True := eq_true (by omega)
  simp only [spec_l04Code.l0, c0, c1, c2, z0, z1, if_true, if_false, r0, r1, w1, w2, P1, P2, L, Option.bind_some]
  cases hpa : isPth d a
  · simp
  · cases hpb : isPth d b
    · simp
    · obtain ⟨hd, T⟩ := two_of hpa hpb
      cases hL : levB d n
      · simp
      · have hn := lev_of hL
        have hnn : (n.toNat : Int) = n := by omega
        have S := same_l0 T n.toNat (by omega) n.toNat (k + 3) 1 (by omega) (by omega)
        rw [hd, hnn] at S
        simp only [if_true, Bool.and_self, Option.bind_some]
        exact S
theorem impl_SameSums_f (k : Nat) (d n : Int) (a b : List (List Int)) (hk : 40000 ≤ k) : impl_SameSums.f k d n a b = some (sameRes d n a b) := by
  unfold impl_SameSums.f sameRes
  obtain ⟨k, rfl⟩ : ∃ q, k = q + 1 := ⟨k - 1, by omega⟩
  simp only [impl_IsPath_f, Option.bind_some]
  cases hpa : isPth d a
  · simp [impl_SameSums.j0]
  · cases hpb : isPth d b
    · simp [impl_SameSums.j0]
    · obtain ⟨hd, T⟩ := two_of hpa hpb
      simp only [if_true, Bool.not_true, impl_SameSums.j0, Bool.false_eq_true, if_false, impl_isLevel_f, Option.bind_some, Bool.and_self]
      cases hL : levB d n
      · simp
      · have hn := lev_of hL
        have hnn : (n.toNat : Int) = n := by omega
        have A := impl_allWords_f k d.toNat n.toNat T.d3 (by omega) (by omega)
        rw [hd, hnn] at A
        obtain ⟨h1, h2⟩ := allW_ok d.toNat T.d3 (n.toNat + 1) 0 (by omega)
        have S := isame_l0 T (allW d.toNat (n.toNat + 1) 0) h1 (by omega) (allW d.toNat (n.toNat + 1) 0).length k 0 (by omega) (by omega)
        rw [A, Option.bind_some, if_pos rfl, if_pos rfl, show impl_SameSums.l0 k a b (allW d.toNat (n.toNat + 1) 0) ((allW d.toNat (n.toNat + 1) 0).length : Int) 0 = _ from S, List.drop_zero, allW, List.all_append]
        have h0 : (wordsN d.toNat 0).all (sameW a b) = true := by
          simp [wordsN, sameW, lets, sumB, ByteArray.size]
        rw [h0, Bool.true_and]

end Go.Proofs.Ytbpipmkgclkhgaa.Pure
