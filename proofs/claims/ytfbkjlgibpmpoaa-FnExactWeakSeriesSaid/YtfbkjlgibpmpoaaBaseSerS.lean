/- The series of sums: what the reference's and the program's come to, for every path. -/
import Derived.Test.YtfbkjlgibpmpoaaPx4
import Derived.Test.YtfbkjlgibpmpoaaBaseSumAt
import Derived.Test.YtfbkjlgibpmpoaaBaseLvl
import Derived.Test.YtfbkjlgibpmpoaaBasePth
import Derived.Test.YtfbkjlgibpmpoaaBaseAllWS
import Derived.Test.YtfbkjlgibpmpoaaTabG
namespace Go.Proofs.Ytfbkjlgibpmpoaa.Pure
open Go.RowKit Go.Proofs.Ytfbkjlgibpmpoaa.P Go.Proofs.YtfbkjlgibpmpoaaW.PrintWords Go.Proofs.YtfbkjlgibpmpoaaW.PrintLast Go.Proofs.Ytfbkjlgibpmpoaa.Tab
set_option linter.unusedVariables false
set_option linter.unusedSimpArgs false

/-- The terms of words that have a sum. -/
def sers (S : ByteArray → Int) (ws : List ByteArray) : List S99 := ws.flatMap fun w => if S w = 0 then [] else [⟨w, ⟨S w, 1⟩⟩]
def allIn (S : ByteArray → Int) (ws : List ByteArray) : Bool := ws.all fun w => inR (S w)
theorem sers_length (S : ByteArray → Int) (ws : List ByteArray) : (sers S ws).length ≤ ws.length := by
  induction ws with
  | nil => simp [sers]
  | cons w ws ih =>
    have e : sers S (w :: ws) = (if S w = 0 then [] else [⟨w, ⟨S w, 1⟩⟩]) ++ sers S ws := by unfold sers; rw [List.flatMap_cons]
    rw [e, List.length_append, List.length_cons]
    split
    · simp; omega
    · simp; omega
theorem sers_append (S : ByteArray → Int) (a b : List ByteArray) : sers S (a ++ b) = sers S a ++ sers S b := by simp [sers]
theorem spec_ser_l1 (d n : Int) (l : List (List Int)) (weak : Bool) (S : ByteArray → Int) (x11 y0 y1 : Int) (x12 : List ByteArray) (hS : ∀ w ∈ x12, ∀ k, 200 ≤ k → spec_l10Sum.f k l w weak = some (S w)) (hl : x12.length ≤ 1000) : ∀ e k i (acc : List S99), i + e = x12.length → acc.length + e ≤ 100000 → 200 ≤ k →
    spec_l10Series.l1 (k + e + 1) d n l weak x11 x12 (i : Int) y0 y1 acc = if allIn S (x12.drop i) = true then spec_l10Series.l0 k d n l weak (wrap64 (x11 + 1)) y0 y1 (acc ++ sers S (x12.drop i)) else some (0, 0, [], false) := by
  intro e
  induction e with
  | zero =>
    intro k i acc h ha hk
    simp only [spec_l10Series.l1]
    rw [if_neg (by omega), List.drop_of_length_le (by omega)]
    simp [allIn, sers]
  | succ e ih =>
    intro k i acc h ha hk
    have hi : i < x12.length := by omega
    obtain ⟨q, hq⟩ : ∃ q, q = k + e + 1 := ⟨_, rfl⟩
    rw [show k + (e + 1) + 1 = q + 1 by omega]
    simp only [spec_l10Series.l1]
    rw [if_pos (by omega), if_pos (by omega), rdOf_nat _ _ hi, hS _ (List.getElem_mem hi) _ (by omega), Option.bind_some, spec_in_f, Option.bind_some, List.drop_eq_getElem_cons hi]
    have e1 : allIn S (x12[i] :: x12.drop (i + 1)) = (inR (S x12[i]) && allIn S (x12.drop (i + 1))) := by unfold allIn; rw [List.all_cons]
    have e2 : sers S (x12[i] :: x12.drop (i + 1)) = (if S x12[i] = 0 then [] else [⟨x12[i], ⟨S x12[i], 1⟩⟩]) ++ sers S (x12.drop (i + 1)) := by unfold sers; rw [List.flatMap_cons]
    rw [e1, e2, wrap_nat _ (by omega), hq]
    show (if inR (S x12[i]) = true then _ else _) = _
    by_cases hb : inR (S x12[i]) = true
    · rw [if_pos hb, hb, Bool.true_and]
      by_cases h0 : S x12[i] = 0
      · rw [if_pos h0, if_pos h0, ih k (i + 1) acc (by omega) (by omega) hk, List.nil_append]
      · rw [if_neg h0, if_neg h0]
        unfold spec_l02One.f
        rw [Option.bind_some, if_pos (by omega), ih k (i + 1) _ (by omega) (by simp; omega) hk, List.append_assoc]
    · rw [if_neg hb]
      rw [Bool.not_eq_true] at hb
      rw [hb]
      simp
theorem allIn_append (S : ByteArray → Int) (a b : List ByteArray) : allIn S (a ++ b) = (allIn S a && allIn S b) := by simp [allIn]
theorem fuelS (A e q P : Nat) (h1 : (e + 1) * 250 + A ≤ (q + P + 1) + 1) (h2 : P ≤ 243) : e * 250 + A ≤ q := by
  rw [Nat.succ_mul] at h1
  generalize e * 250 = x at h1 ⊢
  generalize hb : (250 : Nat) = b at h1
  have hb2 : 245 ≤ b := by rw [← hb]; decide
  have h3 : P ≤ 243 := h2
  clear hb h2
  omega
theorem spec_ser_l0 (D N : Nat) (hd : D ≤ 3) (hn : N ≤ 5) (l : List (List Int)) (weak : Bool) (S : ByteArray → Int) (y0 y1 : Int) (hS : ∀ m, m ≤ N → ∀ w ∈ wordsN D m, ∀ k, 200 ≤ k → spec_l10Sum.f k l w weak = some (S w)) : ∀ e k m (acc : List S99), m + e = N + 1 → e * 250 + 30000 ≤ k → acc.length + e * 243 ≤ 100000 →
    spec_l10Series.l0 k (D : Int) (N : Int) l weak (m : Int) y0 y1 acc = if allIn S (allW D e m) = true then some (y0, y1, acc ++ sers S (allW D e m), true) else some (0, 0, [], false) := by
  intro e
  induction e with
  | zero =>
    intro k m acc h hk ha
    obtain ⟨k, rfl⟩ : ∃ q, k = q + 1 := ⟨k - 1, by omega⟩
    simp only [spec_l10Series.l0]
    rw [if_neg (by omega)]
    simp [allW, allIn, sers]
  | succ e ih =>
    intro k m acc h hk ha
    have hw := wordsN_small D hd m (by omega)
    obtain ⟨k, rfl⟩ : ∃ q, k = (q + (wordsN D m).length + 1) + 1 := ⟨k - (wordsN D m).length - 2, by omega⟩
    simp only [spec_l10Series.l0]
    rw [if_pos (by omega), spec_l01Words_f _ D m hd (by omega) (by omega), Option.bind_some]
    have h1 := spec_ser_l1 (D : Int) (N : Int) l weak S (m : Int) y0 y1 (wordsN D m) (hS m (by omega)) (by omega) (wordsN D m).length k 0 acc (by omega) (by omega) (by omega)
    rw [show ((0 : Nat) : Int) = 0 from rfl, List.drop_zero] at h1
    rw [h1, wrap_nat _ (by omega), allW, allIn_append, sers_append]
    by_cases hb : allIn S (wordsN D m) = true
    · have hsl := sers_length S (wordsN D m)
      rw [if_pos hb, hb, Bool.true_and, ih k (m + 1) _ (by omega) (fuelS _ _ _ _ hk hw) (by rw [List.length_append]; omega), List.append_assoc]
    · rw [if_neg hb]
      rw [Bool.not_eq_true] at hb
      rw [hb]
      simp
theorem allW_mem (D : Nat) (w : ByteArray) : ∀ e m, w ∈ allW D e m → ∃ q, q < m + e ∧ w ∈ wordsN D q
  | 0, m, h => by cases h
  | e + 1, m, h => by
    rw [allW, List.mem_append] at h
    rcases h with h | h
    · exact ⟨m, by omega, h⟩
    · obtain ⟨q, hq, hw⟩ := allW_mem D w e (m + 1) h
      exact ⟨q, by omega, hw⟩
theorem wordsN_pow (D : Nat) : ∀ n, (wordsN D n).length = D ^ n
  | 0 => by simp [wordsN]
  | n + 1 => by rw [wordsN, nextW_length, wordsN_pow D n, Nat.pow_succ]
theorem allW_length (D N : Nat) (h : lvlOk (D : Int) (N : Int) = true) : 1 ≤ (allW D (N + 1) 0).length ∧ (allW D (N + 1) 0).length ≤ 1000 := by
  have hb := lvlOk_bounds h
  have hD : D = 1 ∨ D = 2 ∨ D = 3 := by omega
  have hN : N = 1 ∨ N = 2 ∨ N = 3 ∨ N = 4 ∨ N = 5 := by omega
  rcases hD with rfl | rfl | rfl <;> rcases hN with rfl | rfl | rfl | rfl | rfl <;> first | (exact absurd h (by decide)) | (simp [allW, wordsN_pow])
theorem fillS_bad (sa : Nat → Int) (ok : Nat → Bool) (n : Nat) : ∀ m, (fillS sa ok n m).2 = true ↔ ∃ i, i < m ∧ ok i = false
  | 0 => by simp [fillS]
  | m + 1 => by
    rw [fillS]
    simp only [Bool.or_eq_true, fillS_bad sa ok n m, Bool.not_eq_true']
    constructor
    · rintro (⟨i, h1, h2⟩ | h)
      · exact ⟨i, by omega, h2⟩
      · exact ⟨m, by omega, h⟩
    · rintro ⟨i, h1, h2⟩
      by_cases e : i = m
      · subst e; exact .inr h2
      · exact .inl ⟨i, by omega, h2⟩
theorem fillS_val (sa : Nat → Int) (ok : Nat → Bool) (n : Nat) (hok : ∀ i, i < n → ok i = true) : ∀ m i, i < m → m ≤ n → (fillS sa ok n m).1.getD i z79 = ⟨sa i, 1⟩
  | 0, i, h, _ => by omega
  | m + 1, i, h, hm => by
    rw [fillS]
    have hl := fillS_length sa ok n m
    simp only [List.getD_eq_getElem?_getD, List.getElem?_set]
    by_cases e : m = i
    · subst e
      rw [if_pos rfl, if_pos (by omega), hok m (by omega)]
      rfl
    · rw [if_neg e]
      have := fillS_val sa ok n hok m i (by omega) (by omega)
      rw [List.getD_eq_getElem?_getD] at this
      exact this
theorem termsOf_sers (S : ByteArray → Int) (ws : List ByteArray) (vs : List S79) (hv : ∀ i (h : i < ws.length), vs.getD i z79 = ⟨S ws[i], 1⟩) : ∀ m, m ≤ ws.length → termsOf ws vs m = sers S (ws.take m)
  | 0, _ => by simp [termsOf, sers]
  | m + 1, h => by
    have hm : m < ws.length := by omega
    have hv' : rd_T79 vs (m : Int) = ⟨S ws[m], 1⟩ := by
      unfold rd_T79
      rw [Int.toNat_natCast]
      exact hv m hm
    rw [termsOf_succ, termsOf_sers S ws vs hv m (by omega), List.take_succ_eq_append_getElem hm, sers_append, hv', rdOf_nat _ _ hm]
    simp [sers]
theorem pathCode_f (d n : Int) (l : List (List Int)) : impl_pathCode.f d n l = some (if isPth d l = true then (if lvlOk d n = true then 0 else 2) else 1) := by
  unfold impl_pathCode.f
  rw [impl_IsPath_f, Option.bind_some, impl_isLevel_f, Option.bind_some]
  cases isPth d l <;> cases lvlOk d n <;> rfl
theorem spec_code_f (k : Nat) (d n : Int) (l : List (List Int)) (hn : l.length ≤ 4000000) (hk : 1000 ≤ k) : spec_l04Code.f k d n [l] = some (if isPth d l = true then (if lvlOk d n = true then 0 else 2) else 1) := by
  obtain ⟨k, rfl⟩ : ∃ q, k = q + 2 := ⟨k - 2, by omega⟩
  unfold spec_l04Code.f
  simp only [spec_l04Code.l0]
  have e1 : rd_L2 [l] 0 = l := by simp [rd_L2]
  rw [if_pos (by simp), if_pos (by omega), e1, spec_l04Is_f _ _ _ (by omega) hn, Option.bind_some]
  have e2 : ¬ (wrap64 (0 + 1) < (([l] : List (List (List Int))).length : Int)) := by rw [wrap_of _ (by omega) (by omega)]; simp
  rw [if_neg e2, spec_level_f, Option.bind_some]
  cases isPth d l <;> cases lvlOk d n <;> rfl
/-- The sum at a word. -/
def sumW (weak : Bool) (l : List (List Int)) (w : ByteArray) : Int := wrap64 (sumB weak (lets w w.size 0) l)
theorem fits_of (D : Nat) (hd : D ≤ 3) (l : List (List Int)) (hl : ∀ r ∈ l, (r.length : Int) = (D : Int)) (w : ByteArray) (q : Nat) (hw : w ∈ wordsN D q) : ∀ r ∈ l, fits r.length w := by
  intro r hr i hi
  have := wordsN_ok D hd q w hw i hi
  have := hl r hr
  omega
/-- What both come to. -/
def serRes (weak : Bool) (d n : Int) (l : List (List Int)) : Int × Int × List S99 × Int :=
  if isPth d l = true then (if lvlOk d n = true then (if allIn (sumW weak l) (allW d.toNat (n.toNat + 1) 0) = true then (d, n, sers (sumW weak l) (allW d.toNat (n.toNat + 1) 0), 0) else (0, 0, [], 3)) else (0, 0, [], 2)) else (0, 0, [], 1)
theorem serRes_small (weak : Bool) (d n : Int) (l : List (List Int)) : (serRes weak d n l).2.2.1.length ≤ 1000 := by
  unfold serRes
  by_cases h1 : isPth d l = true
  · rw [if_pos h1]
    by_cases h2 : lvlOk d n = true
    · rw [if_pos h2]
      have hb := lvlOk_bounds h2
      obtain ⟨D, rfl⟩ : ∃ D : Nat, d = D := ⟨d.toNat, by omega⟩
      obtain ⟨N, rfl⟩ : ∃ N : Nat, n = N := ⟨n.toNat, by omega⟩
      have hl := allW_length D N h2
      rw [Int.toNat_natCast, Int.toNat_natCast]
      split
      · exact Nat.le_trans (sers_length _ _) hl.2
      · simp
    · rw [if_neg h2]; simp
  · rw [if_neg h1]; simp
theorem sums_ser (weak : Bool) (k : Nat) (d n : Int) (l : List (List Int)) (hk : 100000 ≤ k) : Sums k d n l weak (serRes weak d n l) := by
  refine ⟨_, pathCode_f d n l, ?_⟩
  unfold serRes
  by_cases h1 : isPth d l = true
  · rw [if_pos h1, if_pos h1]
    by_cases h2 : lvlOk d n = true
    · rw [if_pos h2, if_pos h2]
      refine .inr ⟨rfl, ?_⟩
      have hb := lvlOk_bounds h2
      have hp := isPth_bounds h1
      obtain ⟨D, rfl⟩ : ∃ D : Nat, d = D := ⟨d.toNat, by omega⟩
      obtain ⟨N, rfl⟩ : ∃ N : Nat, n = N := ⟨n.toNat, by omega⟩
      have hl := allW_length D N h2
      rw [Int.toNat_natCast, Int.toNat_natCast]
      have hD : D ≤ 3 := by omega
      have hN : N ≤ 5 := by omega
      generalize hws : allW D (N + 1) 0 = ws at hl
      have hS : ∀ i (h : i < ws.length), impl_sumAt.f k l ws[i] weak = some (sumW weak l ws[i]) := fun i h => by
        have hm := List.getElem_mem h
        obtain ⟨q, hq, hw⟩ := allW_mem D ws[i] (N + 1) 0 (by rw [hws]; exact hm)
        exact impl_sumAt_f k _ weak l (by rw [wordsN_size D q _ hw]; omega) hp.2.2.1 (fits_of D hD l hp.2.2.2 _ q hw) (by omega)
      refine ⟨ws, fun i => sumW weak l (ws.getD i ByteArray.empty), fun i => inR (sumW weak l (ws.getD i ByteArray.empty)), by rw [impl_allWords_f k D N hD hN (by omega), hws], hl.1, hl.2, ?_, ?_, ?_⟩
      · intro i h
        have e : ws.getD i ByteArray.empty = ws[i] := by simp [List.getD_eq_getElem?_getD, h]
        rw [rdOf_nat _ _ h, hS i h]
        dsimp only
        rw [e]
      · intro i h
        exact fit1 k _ (by omega)
      · unfold toldOf
        by_cases hA : allIn (sumW weak l) ws = true
        · rw [if_pos hA]
          have hok : ∀ i, i < ws.length → inR (sumW weak l (ws.getD i ByteArray.empty)) = true := fun i h => by
            have e : ws.getD i ByteArray.empty = ws[i] := by simp [List.getD_eq_getElem?_getD, h]
            rw [e]
            unfold allIn at hA
            rw [List.all_eq_true] at hA
            exact hA _ (List.getElem_mem h)
          rw [if_neg (by
            rw [fillS_bad]
            rintro ⟨i, h, h'⟩
            have h3 := hok i h
            rw [h'] at h3
            exact absurd h3 (by decide))]
          rw [termsOf_sers (sumW weak l) ws _ (fun i h => by
            rw [fillS_val _ _ _ hok ws.length i h (Nat.le_refl _)]
            have e : ws.getD i ByteArray.empty = ws[i] := by simp [List.getD_eq_getElem?_getD, h]
            rw [e]) ws.length (Nat.le_refl _), List.take_of_length_le (Nat.le_refl _)]
        · rw [if_neg hA, if_pos]
          rw [fillS_bad]
          unfold allIn at hA
          rw [List.all_eq_true] at hA
          apply Classical.byContradiction
          intro hno
          apply hA
          intro w hw
          obtain ⟨i, h, rfl⟩ := List.getElem_of_mem hw
          apply Classical.byContradiction
          intro hne
          refine hno ⟨i, h, ?_⟩
          have e : ws.getD i ByteArray.empty = ws[i] := by simp [List.getD_eq_getElem?_getD, h]
          rw [e]
          simpa using hne
    · rw [if_neg h2, if_neg h2]
      exact .inl ⟨by decide, rfl⟩
  · rw [if_neg h1, if_neg h1]
    exact .inl ⟨by decide, rfl⟩
theorem spec_ser_f (weak : Bool) (k : Nat) (d n : Int) (l : List (List Int)) (hl : l.length ≤ 4000000) (hk : 100000 ≤ k) :
    ((spec_l04Code.f k d n [l]).bind fun t174 => (if t174 = 0 then ((spec_l10Series.f k d n l weak).bind fun bt175 => (if bt175.2.2.2 = true then (some (bt175.1, bt175.2.1, bt175.2.2.1, (0 : Int))) else (some (0, 0, ([] : List S99), 3)))) else (some (0, 0, ([] : List S99), t174)))) = some (serRes weak d n l) := by
  rw [spec_code_f k d n l hl (by omega), Option.bind_some]
  unfold serRes
  by_cases h1 : isPth d l = true
  · rw [if_pos h1, if_pos h1]
    by_cases h2 : lvlOk d n = true
    · rw [if_pos h2, if_pos h2, if_pos rfl]
      have hb := lvlOk_bounds h2
      have hp := isPth_bounds h1
      obtain ⟨D, rfl⟩ : ∃ D : Nat, d = D := ⟨d.toNat, by omega⟩
      obtain ⟨N, rfl⟩ : ∃ N : Nat, n = N := ⟨n.toNat, by omega⟩
      rw [Int.toNat_natCast, Int.toNat_natCast]
      unfold spec_l10Series.f spec_l01Empty.f
      rw [Option.bind_some]
      have := spec_ser_l0 D N (by omega) (by omega) l weak (sumW weak l) (D : Int) (N : Int) (fun m hm w hw k hk => spec_l10Sum_f k w weak l (by rw [wordsN_size D m w hw]; omega) hp.2.2.1 (fits_of D (by omega) l hp.2.2.2 w m hw) hk) (N + 1) k 0 [] (by omega) (by omega) (by simp; omega)
      rw [show ((0 : Nat) : Int) = 0 from rfl] at this
      rw [this]
      split
      · simp
      · simp
    · rw [if_neg h2, if_neg h2, if_neg (by decide)]
  · rw [if_neg h1, if_neg h1, if_neg (by decide)]
end Go.Proofs.Ytfbkjlgibpmpoaa.Pure
