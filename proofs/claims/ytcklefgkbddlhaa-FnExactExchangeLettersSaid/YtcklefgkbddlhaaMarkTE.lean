/- The marks of terms: the texts, and what laws.heldSeries says of them. -/
import Derived.Test.YtcklefgkbddlhaaPx2
import Derived.Test.YtcklefgkbddlhaaBaseCopiesV
namespace Go.Proofs.Ytcklefgkbddlhaa.Tab
open Go.RowKit Go.Proofs.Ytcklefgkbddlhaa.P Go.Proofs.YtcklefgkbddlhaaW.PrintWords Go.Proofs.YtcklefgkbddlhaaW.PrintLast Go.Proofs.YtcklefgkbddlhaaW.PrintMore Go.Proofs.Ytcklefgkbddlhaa.Pure
set_option linter.unusedVariables false
set_option linter.unusedSimpArgs false

theorem strOf1 (x : Int) : (strOfNums [x]).size = 1 := by
  unfold strOfNums
  rfl
theorem markText_l0 : ∀ (n : Nat) (k : Nat) (x : Int) (s : ByteArray), x < 10 ^ n → x ≤ 10000000 → n < k → s.size + n ≤ 1000 → ∃ r, laws_markText.l0 k x s = some r
  | n, 0, x, s, h, hx, hk, hs => by omega
  | 0, k + 1, x, s, h, hx, hk, hs => by
    unfold laws_markText.l0
    rw [if_neg (by simp at h; omega), if_pos (by omega)]
    exact ⟨_, rfl⟩
  | n + 1, k + 1, x, s, h, hx, hk, hs => by
    unfold laws_markText.l0
    by_cases h0 : x > 0
    · have e1 := strOf1 ((wrap64 (48 + (Int.tmod x 10))) % 256)
      rw [if_pos h0, Option.bind_some, if_pos (by rw [e1]; omega)]
      have e2 : Int.tdiv x 10 = x / 10 := Int.tdiv_eq_ediv_of_nonneg (by omega)
      rw [wrap_of _ (by rw [e2]; omega) (by rw [e2]; omega), e2]
      refine markText_l0 n k _ _ ?_ (by omega) (by omega) (by rw [ByteArray.size_append, e1]; omega)
      rw [Int.pow_succ] at h
      omega
    · rw [if_neg h0, if_pos (by omega)]
      exact ⟨_, rfl⟩
/-- The text of a mark. -/
def mt (m : Int) : ByteArray := (laws_markText.f 100 m).getD ByteArray.empty
theorem mt_100 (m : Int) (h : m ≤ 9999999) : laws_markText.f 100 m = some (mt m) := by
  have : ∃ r, laws_markText.f 100 m = some r := by
    unfold laws_markText.f
    split
    · exact ⟨_, rfl⟩
    · exact markText_l0 7 100 m _ (by omega) (by omega) (by omega) (by simp [ByteArray.size])
  obtain ⟨r, hr⟩ := this
  unfold mt
  rw [hr]
  rfl
theorem mt_f (m : Int) (h : m ≤ 9999999) (k : Nat) (hk : 100 ≤ k) : laws_markText.f k m = some (mt m) := by
  induction k with
  | zero => omega
  | succ k ih =>
    by_cases hh : k + 1 = 100
    · rw [hh]
      exact mt_100 m h
    · exact laws_markText.mono m k _ (ih (by omega))
/-- The marks of n terms from m on. -/
def tmarks (m : Int) : Nat → List S89
  | 0 => []
  | n + 1 => ⟨mt m, ⟨m + 1, m + 2⟩⟩ :: tmarks (m + 3) n
theorem tmarks_length : ∀ (n : Nat) (m : Int), (tmarks m n).length = n
  | 0, _ => rfl
  | n + 1, m => by simp [tmarks, tmarks_length n]
theorem tmarks_snoc : ∀ (n : Nat) (m : Int), tmarks m (n + 1) = tmarks m n ++ [⟨mt (m + 3 * n), ⟨m + 3 * n + 1, m + 3 * n + 2⟩⟩]
  | 0, m => by simp [tmarks]
  | n + 1, m => by
    rw [tmarks, tmarks_snoc n (m + 3)]
    simp only [tmarks, List.cons_append]
    rw [show m + 3 + 3 * (n : Int) = m + 3 * ((n + 1 : Nat) : Int) by omega]
theorem tmarks_get : ∀ (n : Nat) (m : Int) (i : Nat) (h : i < n), rd_T89 (tmarks m n) (i : Int) = ⟨mt (m + 3 * i), ⟨m + 3 * i + 1, m + 3 * i + 2⟩⟩
  | 0, m, i, h => by omega
  | n + 1, m, 0, h => by simp [tmarks, rd_T89]
  | n + 1, m, i + 1, h => by
    have := tmarks_get n (m + 3) i (by omega)
    simp only [rd_T89, tmarks] at this ⊢
    rw [Int.toNat_natCast] at this ⊢
    rw [List.getD_cons_succ, this, show m + 3 + 3 * (i : Int) = m + 3 * ((i + 1 : Nat) : Int) by omega]
theorem rdS_nat (l : List S89) (i : Nat) (h : i < l.length) : rd_T89 l (i : Int) = l[i] := by simp [rd_T89, List.getD_eq_getElem?_getD, h]
end Go.Proofs.Ytcklefgkbddlhaa.Tab
