/- The marks of terms: the texts, and what laws.heldSeries says of them. -/
import Derived.Test.YtfbkjlgibpmpoaaPx11
import Derived.Test.YtfbkjlgibpmpoaaPx9
import Derived.Test.YtfbkjlgibpmpoaaBaseTables2
namespace Go.Proofs.Ytfbkjlgibpmpoaa.Tab
open Go.RowKit Go.Proofs.Ytfbkjlgibpmpoaa.P Go.Proofs.YtfbkjlgibpmpoaaW.PrintWords Go.Proofs.YtfbkjlgibpmpoaaW.PrintLast Go.Proofs.YtfbkjlgibpmpoaaW.PrintMore Go.Proofs.Ytfbkjlgibpmpoaa.Pure
set_option linter.unusedVariables false
set_option linter.unusedSimpArgs false

theorem strOf1 (x : Int) : (strOfNums [x]).size = 1 := by
  unfold strOfNums
  rfl
theorem markText_l0 : ∀ (n : Nat) (k : Nat) (x : Int) (s : ByteArray), x < 10 ^ n → x ≤ 10000000 → n < k → s.size + n ≤ 1000 → ∃ r, laws_markText.l0 k x s = some r
  | n, 0, x, s, h, hx, hk, hs => by omega
  | 0, k + 1, x, s, h, hx, hk, hs => by
    unfold laws_markText.l0
    rw [if_neg (by simp at h; omega), if_pos (by omega)]
    exact ⟨_, rfl⟩
  | n + 1, k + 1, x, s, h, hx, hk, hs => by
    unfold laws_markText.l0
    by_cases h0 : x > 0
    · have e1 := strOf1 ((wrap64 (48 + (Int.tmod x 10))) % 256)
      rw [if_pos h0, Option.bind_some, if_pos (by rw [e1]; omega)]
      have e2 : Int.tdiv x 10 = x / 10 := Int.tdiv_eq_ediv_of_nonneg (by omega)
      rw [wrap_of _ (by rw [e2]; omega) (by rw [e2]; omega), e2]
      refine markText_l0 n k _ _ ?_ (by omega) (by omega) (by rw [ByteArray.size_append, e1]; omega)
      rw [Int.pow_succ] at h
      omega
    · rw [if_neg h0, if_pos (by omega)]
      exact ⟨_, rfl⟩
/-- The text of a mark. -/
def mt (m : Int) : ByteArray := (laws_markText.f 100 m).getD ByteArray.empty
theorem mt_100 (m : Int) (h : m ≤ 9999999) : laws_markText.f 100 m = some (mt m) := by
  have : ∃ r, laws_markText.f 100 m = some r := by
    unfold laws_markText.f
    split
    · exact ⟨_, rfl⟩
    · exact markText_l0 7 100 m _ (by omega) (by omega) (by omega) (by simp [ByteArray.size])
  obtain ⟨r, hr⟩ := this
  unfold mt
  rw [hr]
  rfl
theorem mt_f (m : Int) (h : m ≤ 9999999) (k : Nat) (hk : 100 ≤ k) : laws_markText.f k m = some (mt m) := by
  induction k with
  | zero => omega
  | succ k ih =>
    by_cases hh : k + 1 = 100
    · rw [hh]
      exact mt_100 m h
    · exact laws_markText.mono m k _ (ih (by omega))
/-- The marks of n terms from m on. -/
def tmarks (m : Int) : Nat → List S99
  | 0 => []
  | n + 1 => ⟨mt m, ⟨m + 1, m + 2⟩⟩ :: tmarks (m + 3) n
theorem tmarks_length : ∀ (n : Nat) (m : Int), (tmarks m n).length = n
  | 0, _ => rfl
  | n + 1, m => by simp [tmarks, tmarks_length n]
theorem tmarks_snoc : ∀ (n : Nat) (m : Int), tmarks m (n + 1) = tmarks m n ++ [⟨mt (m + 3 * n), ⟨m + 3 * n + 1, m + 3 * n + 2⟩⟩]
  | 0, m => by simp [tmarks]
  | n + 1, m => by
    rw [tmarks, tmarks_snoc n (m + 3)]
    simp only [tmarks, List.cons_append]
    rw [show m + 3 + 3 * (n : Int) = m + 3 * ((n + 1 : Nat) : Int) by omega]
theorem tmarks_get : ∀ (n : Nat) (m : Int) (i : Nat) (h : i < n), rd_T99 (tmarks m n) (i : Int) = ⟨mt (m + 3 * i), ⟨m + 3 * i + 1, m + 3 * i + 2⟩⟩
  | 0, m, i, h => by omega
  | n + 1, m, 0, h => by simp [tmarks, rd_T99]
  | n + 1, m, i + 1, h => by
    have := tmarks_get n (m + 3) i (by omega)
    simp only [rd_T99, tmarks] at this ⊢
    rw [Int.toNat_natCast] at this ⊢
    rw [List.getD_cons_succ, this, show m + 3 + 3 * (i : Int) = m + 3 * ((i + 1 : Nat) : Int) by omega]
theorem heldTermS_l0 (n : Nat) (m : Int) (hn : n ≤ 1000) (h0 : 0 ≤ m) (hm : m ≤ 9000000) : ∀ d k (i : Nat), i + d = n → d + 100 < k → laws_heldTermS.l0 k (tmarks m n) (m + 3 * i) (i : Int) = some (m + 3 * n)
  | 0, 0, i, h, hk => by omega
  | d + 1, 0, i, h, hk => by omega
  | 0, k + 1, i, h, hk => by
    unfold laws_heldTermS.l0
    rw [tmarks_length, if_neg (by omega)]
    congr 1
    omega
  | d + 1, k + 1, i, h, hk => by
    unfold laws_heldTermS.l0
    rw [tmarks_length, if_pos (by omega), if_pos (by omega), mt_f _ (by omega) k (by omega), Option.bind_some, tmarks_get n m i (by omega)]
    dsimp only
    rw [if_pos rfl, wrap_of (m + 3 * (i : Int) + 1) (by omega) (by omega), if_pos rfl, wrap_of (m + 3 * (i : Int) + 1 + 1) (by omega) (by omega), if_pos (show m + 3 * (i : Int) + 2 = m + 3 * (i : Int) + 1 + 1 by omega), wrap_of (m + 3 * (i : Int) + 1 + 1 + 1) (by omega) (by omega), wrap_of ((i : Int) + 1) (by omega) (by omega)]
    have := heldTermS_l0 n m hn h0 hm d k (i + 1) (by omega) (by omega)
    rw [show m + 3 * (i : Int) + 1 + 1 + 1 = m + 3 * ((i + 1 : Nat) : Int) by omega, show (i : Int) + 1 = ((i + 1 : Nat) : Int) by omega]
    exact this
theorem heldSeries_f (k : Nat) (d n' : Int) (n : Nat) (m : Int) (hn : n ≤ 1000) (h0 : 0 ≤ m) (hm : m ≤ 9000000) (hk : n + 100 < k) : laws_heldSeries.f k d n' (tmarks m n) m = some (m + 3 * n) := by
  unfold laws_heldSeries.f laws_heldTermS.f
  have := heldTermS_l0 n m hn h0 hm n k 0 (by omega) hk
  rw [show m + 3 * ((0 : Nat) : Int) = m by omega] at this
  rw [show ((0 : Nat) : Int) = 0 from rfl] at this
  rw [this, Option.bind_some, if_neg (by omega)]
theorem rdS_nat (l : List S99) (i : Nat) (h : i < l.length) : rd_T99 l (i : Int) = l[i] := by simp [rd_T99, List.getD_eq_getElem?_getD, h]
theorem eqTS_l0 (l : List S99) (hl : l.length ≤ 1048576) : ∀ d k i, i + d = l.length → d < k → laws_eqTermS.l0 k l l (i : Int) = some true := by
  intro d
  induction d with
  | zero =>
    intro k i h hk
    obtain ⟨k, rfl⟩ : ∃ m, k = m + 1 := ⟨k - 1, by omega⟩
    simp only [laws_eqTermS.l0]
    rw [if_neg (by omega)]
  | succ d ih =>
    intro k i h hk
    obtain ⟨k, rfl⟩ : ∃ m, k = m + 1 := ⟨k - 1, by omega⟩
    simp only [laws_eqTermS.l0]
    rw [if_pos (by omega), if_pos (by omega), if_pos (by omega), wrap_nat _ (by omega), ih k (i + 1) (by omega) (by omega)]
    unfold laws_eqTerm.f laws_eqFraction.f
    simp
theorem eqS_f (k : Nat) (d n : Int) (l : List S99) (hl : l.length ≤ 1048576) (hk : l.length < k) : laws_eqSeries.f k d n l d n l = some true := by
  unfold laws_eqSeries.f laws_eqTermS.f
  rw [if_pos rfl, if_pos rfl, if_pos rfl]
  have := eqTS_l0 l hl l.length k 0 (by omega) hk
  rw [show ((0 : Nat) : Int) = 0 from rfl] at this
  rw [this]
  rfl
end Go.Proofs.Ytfbkjlgibpmpoaa.Tab
