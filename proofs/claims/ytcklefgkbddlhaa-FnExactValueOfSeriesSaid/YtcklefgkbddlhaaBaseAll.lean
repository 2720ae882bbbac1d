/- Plain lemmas and contracts of this session, of which the parts' own heads tell. -/
import Derived.Test.YtcklefgkbddlhaaPx10
import Derived.Test.YtcklefgkbddlhaaPx20
import Derived.Test.YtcklefgkbddlhaaPx3
import Derived.Test.YtcklefgkbddlhaaPx21
import Derived.Test.YtcklefgkbddlhaaPx22
import Derived.Test.YtcklefgkbddlhaaPx1
import Derived.Test.YtcklefgkbddlhaaPx2
import Derived.Test.YtcklefgkbddlhaaPx11
import Derived.Test.YtcklefgkbddlhaaPx4
import Derived.Test.YtcklefgkbddlhaaPx13
import Derived.Lib.Bytealg
import Derived.Lib.Strings
import Derived.Test.YtcklefgkbddlhaaPx9
import Derived.Test.YtcklefgkbddlhaaPx19
import Derived.Test.YtcklefgkbddlhaaPx7
import Derived.Test.YtcklefgkbddlhaaPx17
import Derived.Test.YtcklefgkbddlhaaPx5
import Derived.Test.YtcklefgkbddlhaaPx15
import Derived.Test.YtcklefgkbddlhaaPx6
import Derived.Test.YtcklefgkbddlhaaPx16
import Derived.Test.YtcklefgkbddlhaaPx8
import Derived.Test.YtcklefgkbddlhaaPx18
/- Plain lemmas on wrapped numbers. -/
namespace Go.Proofs.Ytcklefgkbddlhaa.Pure
open Go.RowKit Go.Proofs.Ytcklefgkbddlhaa.P Go.Proofs.YtcklefgkbddlhaaW.PrintWords Go.Proofs.YtcklefgkbddlhaaW.PrintLast
set_option linter.unusedVariables false
set_option linter.unusedSimpArgs false

theorem wrap_of (i : Int) (h0 : -9223372036854775808 ≤ i) (h1 : i ≤ 9223372036854775807) : wrap64 i = i := by unfold wrap64; omega
theorem wrap_nat (i : Nat) (h : i < 4611686018427387904) : wrap64 ((i : Int) + 1) = ((i + 1 : Nat) : Int) := by unfold wrap64; omega
theorem rd_nat (l : List Int) (i : Nat) (h : i < l.length) : rd l (i : Int) = l[i] := by simp [rd, h]
end Go.Proofs.Ytcklefgkbddlhaa.Pure
/- Plain lemmas on what the printed functions over lists of whole numbers compute. -/
namespace Go.Proofs.Ytcklefgkbddlhaa.Pure
open Go.RowKit Go.Proofs.Ytcklefgkbddlhaa.P Go.Proofs.YtcklefgkbddlhaaW.PrintWords Go.Proofs.YtcklefgkbddlhaaW.PrintLast
set_option linter.unusedVariables false
set_option linter.unusedSimpArgs false

theorem take_set (x : List Int) (i : Nat) (a : Int) (h : i < x.length) : (x.set i a).take (i + 1) = x.take i ++ [a] := by
  rw [List.take_succ_eq_append_getElem (by simpa using h)]
  simp [List.take_set_of_le]

theorem toInt64S_l0 (l : List Int) (hl : l.length ≤ 1048576) : ∀ d k i (x : List Int), i + d = l.length → d < k → x.length = l.length → laws_toInt64S.l0 k l x (i : Int) = some (x.take i ++ l.drop i) := by
  intro d
  induction d with
  | zero =>
    intro k i x h hk hx
    obtain ⟨k, rfl⟩ : ∃ m, k = m + 1 := ⟨k - 1, by omega⟩
    simp only [laws_toInt64S.l0]
    rw [if_neg (by omega), List.drop_of_length_le (by omega), List.take_of_length_le (by omega), List.append_nil]
  | succ d ih =>
    intro k i x h hk hx
    obtain ⟨k, rfl⟩ : ∃ m, k = m + 1 := ⟨k - 1, by omega⟩
    simp only [laws_toInt64S.l0]
    rw [if_pos (by omega), if_pos (by omega), if_pos (by omega), wrap_nat _ (by omega), ih k (i + 1) _ (by omega) (by omega) (by simpa using hx), rd_nat l i (by omega), Int.toNat_natCast, take_set x i _ (by omega), List.append_assoc, List.drop_eq_getElem_cons (show i < l.length by omega)]
    rfl
theorem toInt64S_f (k : Nat) (l : List Int) (hl : l.length ≤ 1048576) (hk : l.length < k) : laws_toInt64S.f k l = some l := by
  unfold laws_toInt64S.f
  rw [if_pos (by omega), if_pos (by omega)]
  have := toInt64S_l0 l hl l.length k 0 (List.replicate ((l.length : Int)).toNat 0) (by omega) hk (by simp)
  simpa using this

theorem eqInt64S_l0 (l : List Int) (hl : l.length ≤ 4000000) : ∀ d k i, i + d = l.length → d < k → laws_eqInt64S.l0 k l l (i : Int) = some true := by
  intro d
  induction d with
  | zero =>
    intro k i h hk
    obtain ⟨k, rfl⟩ : ∃ m, k = m + 1 := ⟨k - 1, by omega⟩
    simp only [laws_eqInt64S.l0]
    rw [if_neg (by omega)]
  | succ d ih =>
    intro k i h hk
    obtain ⟨k, rfl⟩ : ∃ m, k = m + 1 := ⟨k - 1, by omega⟩
    simp only [laws_eqInt64S.l0]
    rw [if_pos (by omega), if_pos (by omega), if_pos (by omega), if_pos trivial, wrap_nat _ (by omega), ih k (i + 1) (by omega) (by omega)]
theorem eqInt64S_f (k : Nat) (l : List Int) (hl : l.length ≤ 4000000) (hk : l.length < k) : laws_eqInt64S.f k l l = some true := by
  unfold laws_eqInt64S.f
  rw [if_pos rfl]
  exact eqInt64S_l0 l hl l.length k 0 (by omega) hk

end Go.Proofs.Ytcklefgkbddlhaa.Pure
/- Plain lemmas on tables of whole numbers: sizes, copies, equality, and when they are tables. -/
namespace Go.Proofs.Ytcklefgkbddlhaa.Pure
open Go.RowKit Go.Proofs.Ytcklefgkbddlhaa.P Go.Proofs.YtcklefgkbddlhaaW.PrintWords Go.Proofs.YtcklefgkbddlhaaW.PrintLast
set_option linter.unusedVariables false
set_option linter.unusedSimpArgs false

theorem rdR_nat (l : List (List Int)) (i : Nat) (h : i < l.length) : rd_L6 l (i : Int) = l[i] := by simp [rd_L6, List.getD_eq_getElem?_getD, h]
theorem rdT_nat (l : List (List (List Int))) (i : Nat) (h : i < l.length) : rd_L7 l (i : Int) = l[i] := by simp [rd_L7, List.getD_eq_getElem?_getD, h]
/-- How much rows hold, and how much tables hold. -/
def size2 : List (List Int) → Nat
  | [] => 0
  | r :: l => r.length + size2 l
def size3 : List (List (List Int)) → Nat
  | [] => 0
  | m :: l => m.length + size2 m + size3 l
theorem size2_mem {l : List (List Int)} {r : List Int} (h : r ∈ l) : r.length ≤ size2 l := by
  induction l with
  | nil => cases h
  | cons a l ih =>
    simp only [size2]
    rcases List.mem_cons.1 h with h | h
    · subst h; omega
    · have := ih h; omega
theorem size3_mem {l : List (List (List Int))} {m : List (List Int)} (h : m ∈ l) : m.length + size2 m ≤ size3 l := by
  induction l with
  | nil => cases h
  | cons a l ih =>
    simp only [size3]
    rcases List.mem_cons.1 h with h | h
    · subst h; omega
    · have := ih h; omega
theorem szS_f (r : List Int) (left : Int) (h0 : 0 ≤ left) (h1 : left ≤ 1048576) (hr : r.length ≤ 9223372036854775807) : laws_szInt64S.f r left = some (if left - r.length < 0 then -1 else left - r.length) := by
  unfold laws_szInt64S.f
  rw [wrap_of _ (by omega) (by omega)]
  split <;> rfl
theorem szSS_l0 (l : List (List Int)) (hw : ∀ r ∈ l, r.length ≤ 9223372036854775807) (hl : l.length ≤ 1048576) : ∀ d k i left, i + d = l.length → d < k → 0 ≤ left → left ≤ 1048576 → ∃ t, laws_szInt64SS.l0 k l left (i : Int) = some t ∧ (t < 0 ∨ (0 ≤ t ∧ t + size2 (l.drop i) = left)) := by
  intro d
  induction d with
  | zero =>
    intro k i left h hk h0 h1
    obtain ⟨k, rfl⟩ : ∃ m, k = m + 1 := ⟨k - 1, by omega⟩
    simp only [laws_szInt64SS.l0]
    rw [if_neg (by omega), List.drop_of_length_le (by omega)]
    exact ⟨left, rfl, .inr ⟨h0, by simp [size2]⟩⟩
  | succ d ih =>
    intro k i left h hk h0 h1
    obtain ⟨k, rfl⟩ : ∃ m, k = m + 1 := ⟨k - 1, by omega⟩
    simp only [laws_szInt64SS.l0]
    rw [if_pos (by omega), if_pos (by omega), rdR_nat l i (by omega), szS_f _ _ h0 h1 (hw _ (List.getElem_mem (by omega))), Option.bind_some, List.drop_eq_getElem_cons (show i < l.length by omega), wrap_nat _ (by omega)]
    by_cases hn : left - (l[i].length : Int) < 0
    · rw [if_pos hn, if_pos (by omega)]
      exact ⟨-1, rfl, .inl (by omega)⟩
    · rw [if_neg hn, if_neg hn]
      obtain ⟨t, ht, h2⟩ := ih k (i + 1) (left - l[i].length) (by omega) (by omega) (by omega) (by omega)
      refine ⟨t, ht, ?_⟩
      simp only [size2]
      omega
theorem szSS_f (k : Nat) (l : List (List Int)) (left : Int) (hw : ∀ r ∈ l, r.length ≤ 9223372036854775807) (hl : l.length ≤ 9223372036854775807) (hk : 1048576 < k) (h0 : 0 ≤ left) (h1 : left ≤ 1048576) : ∃ t, laws_szInt64SS.f k l left = some t ∧ (t < 0 ∨ (0 ≤ t ∧ t + size2 l + l.length = left)) := by
  unfold laws_szInt64SS.f
  rw [wrap_of _ (by omega) (by omega)]
  by_cases hn : left - (l.length : Int) < 0
  · rw [if_pos hn]; exact ⟨-1, rfl, .inl (by omega)⟩
  · rw [if_neg hn]
    obtain ⟨t, ht, h2⟩ := szSS_l0 l hw (by omega) l.length k 0 (left - l.length) (by omega) (by omega) (by omega) (by omega)
    refine ⟨t, ht, ?_⟩
    rw [List.drop_zero] at h2
    omega
theorem szSSS_l0 (l : List (List (List Int))) (hw : ∀ m ∈ l, m.length ≤ 9223372036854775807 ∧ ∀ r ∈ m, r.length ≤ 9223372036854775807) (hl : l.length ≤ 1048576) : ∀ d k i left, i + d = l.length → d + 1048577 < k → 0 ≤ left → left ≤ 1048576 → ∃ t, laws_szInt64SSS.l0 k l left (i : Int) = some t ∧ (t < 0 ∨ (0 ≤ t ∧ t + size3 (l.drop i) = left)) := by
  intro d
  induction d with
  | zero =>
    intro k i left h hk h0 h1
    obtain ⟨k, rfl⟩ : ∃ m, k = m + 1 := ⟨k - 1, by omega⟩
    simp only [laws_szInt64SSS.l0]
    rw [if_neg (by omega), List.drop_of_length_le (by omega)]
    exact ⟨left, rfl, .inr ⟨h0, by simp [size3]⟩⟩
  | succ d ih =>
    intro k i left h hk h0 h1
    obtain ⟨k, rfl⟩ : ∃ m, k = m + 1 := ⟨k - 1, by omega⟩
    obtain ⟨w1, w2⟩ := hw _ (List.getElem_mem (show i < l.length by omega))
    obtain ⟨u, hu, h3⟩ := szSS_f k l[i] left w2 w1 (by omega) h0 h1
    simp only [laws_szInt64SSS.l0]
    rw [if_pos (by omega), if_pos (by omega), rdT_nat l i (by omega), hu, Option.bind_some, List.drop_eq_getElem_cons (show i < l.length by omega), wrap_nat _ (by omega)]
    by_cases hn : u < 0
    · rw [if_pos hn]
      exact ⟨-1, rfl, .inl (by omega)⟩
    · rw [if_neg hn]
      obtain ⟨t, ht, h2⟩ := ih k (i + 1) u (by omega) (by omega) (by omega) (by omega)
      refine ⟨t, ht, ?_⟩
      simp only [size3]
      omega
theorem szSSS_f (k : Nat) (l : List (List (List Int))) (hw : ∀ m ∈ l, m.length ≤ 9223372036854775807 ∧ ∀ r ∈ m, r.length ≤ 9223372036854775807) (hl : l.length ≤ 9223372036854775807) (hk : 3000000 ≤ k) : ∃ t, laws_szInt64SSS.f k l 1048576 = some t ∧ (t < 0 ∨ (0 ≤ t ∧ size3 l + l.length ≤ 1048576)) := by
  unfold laws_szInt64SSS.f
  rw [wrap_of _ (by omega) (by omega)]
  by_cases hn : 1048576 - (l.length : Int) < 0
  · rw [if_pos hn]; exact ⟨-1, rfl, .inl (by omega)⟩
  · rw [if_neg hn]
    obtain ⟨t, ht, h2⟩ := szSSS_l0 l hw (by omega) l.length k 0 (1048576 - l.length) (by omega) (by omega) (by omega) (by omega)
    refine ⟨t, ht, ?_⟩
    rw [List.drop_zero] at h2
    omega
theorem take_setA {α : Type} (x : List α) (i : Nat) (a : α) (h : i < x.length) : (x.set i a).take (i + 1) = x.take i ++ [a] := by
  rw [List.take_succ_eq_append_getElem (by simpa using h)]
  simp [List.take_set_of_le]
theorem toSS_l0 (l : List (List Int)) (hl : l.length ≤ 1048576) (hs : size2 l ≤ 1048576) : ∀ d k i (x : List (List Int)), i + d = l.length → d + 1048577 < k → x.length = l.length → laws_toInt64SS.l0 k l x (i : Int) = some (x.take i ++ l.drop i) := by
  intro d
  induction d with
  | zero =>
    intro k i x h hk hx
    obtain ⟨k, rfl⟩ : ∃ m, k = m + 1 := ⟨k - 1, by omega⟩
    simp only [laws_toInt64SS.l0]
    rw [if_neg (by omega), List.drop_of_length_le (by omega), List.take_of_length_le (by omega), List.append_nil]
  | succ d ih =>
    intro k i x h hk hx
    obtain ⟨k, rfl⟩ : ∃ m, k = m + 1 := ⟨k - 1, by omega⟩
    have hm := size2_mem (List.getElem_mem (show i < l.length by omega))
    simp only [laws_toInt64SS.l0]
    rw [if_pos (by omega), if_pos (by omega), rdR_nat l i (by omega), toInt64S_f k l[i] (by omega) (by omega), Option.bind_some, if_pos (by omega), wrap_nat _ (by omega), ih k (i + 1) _ (by omega) (by omega) (by simpa using hx), Int.toNat_natCast, take_setA x i _ (by omega), List.append_assoc, List.drop_eq_getElem_cons (show i < l.length by omega)]
    rfl
theorem toSS_f (k : Nat) (l : List (List Int)) (hl : l.length ≤ 1048576) (hs : size2 l ≤ 1048576) (hk : 2500000 ≤ k) : laws_toInt64SS.f k l = some l := by
  unfold laws_toInt64SS.f
  rw [if_pos (by omega), if_pos (by omega)]
  have := toSS_l0 l hl hs l.length k 0 (List.replicate ((l.length : Int)).toNat []) (by omega) (by omega) (by simp)
  simpa using this
theorem toSSS_l0 (l : List (List (List Int))) (hl : l.length ≤ 1048576) (hs : size3 l ≤ 1048576) : ∀ d k i (x : List (List (List Int))), i + d = l.length → d + 2500001 < k → x.length = l.length → laws_toInt64SSS.l0 k l x (i : Int) = some (x.take i ++ l.drop i) := by
  intro d
  induction d with
  | zero =>
    intro k i x h hk hx
    obtain ⟨k, rfl⟩ : ∃ m, k = m + 1 := ⟨k - 1, by omega⟩
    simp only [laws_toInt64SSS.l0]
    rw [if_neg (by omega), List.drop_of_length_le (by omega), List.take_of_length_le (by omega), List.append_nil]
  | succ d ih =>
    intro k i x h hk hx
    obtain ⟨k, rfl⟩ : ∃ m, k = m + 1 := ⟨k - 1, by omega⟩
    have hm := size3_mem (List.getElem_mem (show i < l.length by omega))
    simp only [laws_toInt64SSS.l0]
    rw [if_pos (by omega), if_pos (by omega), rdT_nat l i (by omega), toSS_f k l[i] (by omega) (by omega) (by omega), Option.bind_some, if_pos (by omega), wrap_nat _ (by omega), ih k (i + 1) _ (by omega) (by omega) (by simpa using hx), Int.toNat_natCast, take_setA x i _ (by omega), List.append_assoc, List.drop_eq_getElem_cons (show i < l.length by omega)]
    rfl
theorem toSSS_f (k : Nat) (l : List (List (List Int))) (hl : l.length ≤ 1048576) (hs : size3 l ≤ 1048576) (hk : 4000000 ≤ k) : laws_toInt64SSS.f k l = some l := by
  unfold laws_toInt64SSS.f
  rw [if_pos (by omega), if_pos (by omega)]
  have := toSSS_l0 l hl hs l.length k 0 (List.replicate ((l.length : Int)).toNat []) (by omega) (by omega) (by simp)
  simpa using this
theorem eqSS_l0 (l : List (List Int)) (hl : l.length ≤ 1048576) (hs : size2 l ≤ 1048576) : ∀ d k i, i + d = l.length → d + 1048577 < k → laws_eqInt64SS.l0 k l l (i : Int) = some true := by
  intro d
  induction d with
  | zero =>
    intro k i h hk
    obtain ⟨k, rfl⟩ : ∃ m, k = m + 1 := ⟨k - 1, by omega⟩
    simp only [laws_eqInt64SS.l0]
    rw [if_neg (by omega)]
  | succ d ih =>
    intro k i h hk
    obtain ⟨k, rfl⟩ : ∃ m, k = m + 1 := ⟨k - 1, by omega⟩
    have hm := size2_mem (List.getElem_mem (show i < l.length by omega))
    simp only [laws_eqInt64SS.l0]
    rw [if_pos (by omega), if_pos (by omega), if_pos (by omega), rdR_nat l i (by omega), eqInt64S_f k l[i] (by omega) (by omega), Option.bind_some, if_pos rfl, wrap_nat _ (by omega), ih k (i + 1) (by omega) (by omega)]
theorem eqSS_f (k : Nat) (l : List (List Int)) (hl : l.length ≤ 1048576) (hs : size2 l ≤ 1048576) (hk : 2500000 ≤ k) : laws_eqInt64SS.f k l l = some true := by
  unfold laws_eqInt64SS.f
  rw [if_pos rfl]
  exact eqSS_l0 l hl hs l.length k 0 (by omega) (by omega)
theorem eqSSS_l0 (l : List (List (List Int))) (hl : l.length ≤ 1048576) (hs : size3 l ≤ 1048576) : ∀ d k i, i + d = l.length → d + 2500001 < k → laws_eqInt64SSS.l0 k l l (i : Int) = some true := by
  intro d
  induction d with
  | zero =>
    intro k i h hk
    obtain ⟨k, rfl⟩ : ∃ m, k = m + 1 := ⟨k - 1, by omega⟩
    simp only [laws_eqInt64SSS.l0]
    rw [if_neg (by omega)]
  | succ d ih =>
    intro k i h hk
    obtain ⟨k, rfl⟩ : ∃ m, k = m + 1 := ⟨k - 1, by omega⟩
    have hm := size3_mem (List.getElem_mem (show i < l.length by omega))
    simp only [laws_eqInt64SSS.l0]
    rw [if_pos (by omega), if_pos (by omega), if_pos (by omega), rdT_nat l i (by omega), eqSS_f k l[i] (by omega) (by omega) (by omega), Option.bind_some, if_pos rfl, wrap_nat _ (by omega), ih k (i + 1) (by omega) (by omega)]
theorem eqSSS_f (k : Nat) (l : List (List (List Int))) (hl : l.length ≤ 1048576) (hs : size3 l ≤ 1048576) (hk : 4000000 ≤ k) : laws_eqInt64SSS.f k l l = some true := by
  unfold laws_eqInt64SSS.f
  rw [if_pos rfl]
  exact eqSSS_l0 l hl hs l.length k 0 (by omega) (by omega)
theorem spec_l01In_f (n lo hi : Int) : spec_l01In.f n lo hi = some (decide (lo ≤ n) && decide (n ≤ hi)) := by
  unfold spec_l01In.f
  by_cases h : n ≥ lo
  · rw [if_pos h]; simp [show lo ≤ n from h]
  · rw [if_neg h]; simp [show ¬ lo ≤ n from h]

end Go.Proofs.Ytcklefgkbddlhaa.Pure
/- Plain lemmas on rows of fractions: marks, equality. -/
namespace Go.Proofs.Ytcklefgkbddlhaa.Pure
open Go.RowKit Go.Proofs.Ytcklefgkbddlhaa.P Go.Proofs.YtcklefgkbddlhaaW.PrintWords Go.Proofs.YtcklefgkbddlhaaW.PrintLast
set_option linter.unusedVariables false
set_option linter.unusedSimpArgs false

theorem rdF_nat (l : List S27) (i : Nat) (h : i < l.length) : rd_T27 l (i : Int) = l[i] := by simp [rd_T27, List.getD_eq_getElem?_getD, h]
theorem rdFF_nat (l : List (List S27)) (i : Nat) (h : i < l.length) : rd_L8 l (i : Int) = l[i] := by simp [rd_L8, List.getD_eq_getElem?_getD, h]
/-- How many fractions rows hold. -/
def totF : List (List S27) → Nat
  | [] => 0
  | r :: l => r.length + totF l
/-- The marks of n fractions from m on. -/
def fmarks (m : Int) : Nat → List S27
  | 0 => []
  | n + 1 => ⟨m, m + 1⟩ :: fmarks (m + 2) n
theorem fmarks_length : ∀ (n : Nat) (m : Int), (fmarks m n).length = n
  | 0, _ => rfl
  | n + 1, m => by simp [fmarks, fmarks_length n]
/-- The marks of rows from m on. -/
def fmarks2 (m : Int) : List (List S27) → List (List S27)
  | [] => []
  | r :: l => fmarks m r.length :: fmarks2 (m + 2 * r.length) l
theorem fmarks2_length (l : List (List S27)) : ∀ m, (fmarks2 m l).length = l.length := by
  induction l with
  | nil => intro m; rfl
  | cons r l ih => intro m; simp [fmarks2, ih]
theorem totF_append (a b : List (List S27)) : totF (a ++ b) = totF a + totF b := by
  induction a with
  | nil => simp [totF]
  | cons r a ih => simp only [List.cons_append, totF, ih]; omega
theorem fmarks2_append (a b : List (List S27)) : ∀ m, fmarks2 m (a ++ b) = fmarks2 m a ++ fmarks2 (m + 2 * totF a) b := by
  induction a with
  | nil => intro m; simp [fmarks2, totF]
  | cons r a ih => intro m; simp only [List.cons_append, fmarks2, ih, totF]; rw [show m + 2 * (r.length : Int) + 2 * (totF a : Int) = m + 2 * ((r.length + totF a : Nat) : Int) by omega]
theorem fmarks2_snoc (m : Int) (a : List (List S27)) (r : List S27) : fmarks2 m (a ++ [r]) = fmarks2 m a ++ [fmarks (m + 2 * totF a) r.length] := by
  rw [fmarks2_append]; rfl
theorem take_totF_le (l : List (List S27)) (i : Nat) : totF (l.take i) ≤ totF l := by
  have := totF_append (l.take i) (l.drop i)
  rw [List.take_append_drop] at this
  omega
theorem totF_take_succ (l : List (List S27)) (i : Nat) (h : i < l.length) : totF (l.take (i + 1)) = totF (l.take i) + l[i].length := by
  rw [List.take_succ_eq_append_getElem h, totF_append]
  simp [totF]
theorem set_midF {α : Type} (a l : List α) (i : Nat) (x : α) (ha : a.length = i) (hi : i < l.length) : (a ++ l.drop i).set i x = (a ++ [x]) ++ l.drop (i + 1) := by
  rw [List.set_append_right _ _ (by omega), List.drop_eq_getElem_cons hi, show i - a.length = 0 by omega, List.set_cons_zero, List.append_assoc]
  rfl
theorem markFractionS_l0 : ∀ d k i (x : List S27) (m : Int), i + d = x.length → x.length ≤ 4000000 → d < k → 0 ≤ m → m + 2 * d ≤ 1000000000 → laws_markFractionS.l0 k x m (i : Int) = some (m + 2 * d, x.take i ++ fmarks m d) := by
  intro d
  induction d with
  | zero =>
    intro k i x m h hl hk h0 h1
    obtain ⟨k, rfl⟩ : ∃ m, k = m + 1 := ⟨k - 1, by omega⟩
    simp only [laws_markFractionS.l0]
    rw [if_neg (by omega), List.take_of_length_le (by omega)]
    simp [fmarks]
  | succ d ih =>
    intro k i x m h hl hk h0 h1
    obtain ⟨k, rfl⟩ : ∃ m, k = m + 1 := ⟨k - 1, by omega⟩
    simp only [laws_markFractionS.l0]
    rw [if_pos (by omega), if_pos (by omega), Option.bind_some, wrap_of (m + 1) (by omega) (by omega), wrap_of (m + 1 + 1) (by omega) (by omega), wrap_nat _ (by omega), Int.toNat_natCast]
    have e1 : rd_T27 (x.set i ⟨m, (rd_T27 x (i : Int)).f1⟩) (i : Int) = ⟨m, (rd_T27 x (i : Int)).f1⟩ := by
      rw [rdF_nat _ _ (by simp; omega)]
      simp
    rw [e1, List.set_set, ih k (i + 1) _ (m + 1 + 1) (by simp; omega) (by simpa using hl) (by omega) (by omega) (by omega)]
    have e2 : (x.set i (⟨m, m + 1⟩ : S27)).take (i + 1) = x.take i ++ [⟨m, m + 1⟩] := by
      rw [List.take_succ_eq_append_getElem (by simp; omega)]
      simp [List.take_set_of_le]
    rw [e2, List.append_assoc]
    simp only [fmarks, List.singleton_append]
    rw [show m + 1 + 1 = m + 2 by omega, show m + 2 + 2 * (d : Int) = m + 2 * ((d + 1 : Nat) : Int) by omega]
theorem markFractionS_f (k : Nat) (x : List S27) (m : Int) (hl : x.length ≤ 4000000) (hk : x.length < k) (h0 : 0 ≤ m) (h1 : m ≤ 100000000) : laws_markFractionS.f k x m = some (m + 2 * x.length, fmarks m x.length) := by
  unfold laws_markFractionS.f
  have := markFractionS_l0 x.length k 0 x m (by omega) hl hk h0 (by omega)
  simpa using this
theorem heldFractionS_l0 : ∀ d k i (p : List S27) (m : Int), p.length = i → i + d ≤ 4000000 → d < k → 0 ≤ m → m + 2 * d ≤ 4000000000 → laws_heldFractionS.l0 k (p ++ fmarks m d) m (i : Int) = some (m + 2 * d) := by
  intro d
  induction d with
  | zero =>
    intro k i p m h hl hk h0 h1
    obtain ⟨k, rfl⟩ : ∃ m, k = m + 1 := ⟨k - 1, by omega⟩
    simp only [laws_heldFractionS.l0, fmarks, List.append_nil]
    rw [if_neg (by omega)]
    simp
  | succ d ih =>
    intro k i p m h hl hk h0 h1
    obtain ⟨k, rfl⟩ : ∃ m, k = m + 1 := ⟨k - 1, by omega⟩
    have hlen : (p ++ fmarks m (d + 1)).length = i + (d + 1) := by simp [fmarks_length, h]
    have hrd : rd_T27 (p ++ fmarks m (d + 1)) (i : Int) = ⟨m, m + 1⟩ := by
      rw [rdF_nat _ i (by omega), List.getElem_append_right (by omega)]
      simp [h, fmarks]
    simp only [laws_heldFractionS.l0]
    rw [if_pos (by omega), if_pos (by omega), hrd]
    dsimp only
    rw [if_pos rfl, wrap_of (m + 1) (by omega) (by omega), if_pos rfl, wrap_of (m + 1 + 1) (by omega) (by omega), wrap_nat _ (by omega)]
    have := ih k (i + 1) (p ++ [⟨m, m + 1⟩]) (m + 2) (by simp [h]) (by omega) (by omega) (by omega) (by omega)
    rw [List.append_assoc] at this
    simp only [List.singleton_append] at this
    simp only [fmarks]
    rw [show m + 1 + 1 = m + 2 by omega, this]
    congr 1
    omega
theorem heldFractionS_f (k : Nat) (m : Int) (n : Nat) (hl : n ≤ 4000000) (hk : n < k) (h0 : 0 ≤ m) (h1 : m ≤ 1000000000) : laws_heldFractionS.f k (fmarks m n) m = some (m + 2 * n) := by
  unfold laws_heldFractionS.f
  have := heldFractionS_l0 n k 0 [] m rfl (by omega) hk h0 (by omega)
  simpa using this
theorem heldFractionSS_l0 : ∀ (q : List (List S27)) k i (p : List (List S27)) (m : Int), p.length = i → i + q.length ≤ 1000000 → totF q ≤ 1000000 → q.length + totF q < k → 0 ≤ m → m + 2 * totF q ≤ 100000000 → laws_heldFractionSS.l0 k (p ++ fmarks2 m q) m (i : Int) = some (m + 2 * totF q) := by
  intro q
  induction q with
  | nil =>
    intro k i p m h hl ht hk h0 h1
    obtain ⟨k, rfl⟩ : ∃ m, k = m + 1 := ⟨k - 1, by omega⟩
    simp only [laws_heldFractionSS.l0, fmarks2, List.append_nil]
    rw [if_neg (by omega)]
    simp [totF]
  | cons r q ih =>
    intro k i p m h hl ht hk h0 h1
    simp only [totF, List.length_cons] at hl ht hk h1
    obtain ⟨k, rfl⟩ : ∃ m, k = m + 1 := ⟨k - 1, by omega⟩
    have hlen : (p ++ fmarks2 m (r :: q)).length = i + (q.length + 1) := by simp [fmarks2_length, h]
    have hrd : rd_L8 (p ++ fmarks2 m (r :: q)) (i : Int) = fmarks m r.length := by
      rw [rdFF_nat _ i (by omega), List.getElem_append_right (by omega)]
      simp [h, fmarks2]
    simp only [laws_heldFractionSS.l0]
    rw [if_pos (by omega), if_pos (by omega), hrd, heldFractionS_f k m r.length (by omega) (by omega) h0 (by omega), Option.bind_some, if_neg (by omega), wrap_nat _ (by omega)]
    have := ih k (i + 1) (p ++ [fmarks m r.length]) (m + 2 * r.length) (by simp [h]) (by omega) (by omega) (by omega) (by omega) (by omega)
    rw [List.append_assoc] at this
    simp only [List.singleton_append] at this
    simp only [fmarks2, totF]
    rw [this]
    congr 1
    omega
theorem heldFractionSS_f (k : Nat) (l : List (List S27)) (m : Int) (hl : l.length ≤ 1000000) (ht : totF l ≤ 1000000) (hk : l.length + totF l < k) (h0 : 0 ≤ m) (h1 : m ≤ 50000000) : laws_heldFractionSS.f k (fmarks2 m l) m = some (m + 2 * totF l) := by
  unfold laws_heldFractionSS.f
  have := heldFractionSS_l0 l k 0 [] m rfl (by omega) ht hk h0 (by omega)
  simpa using this
theorem eqFractionS_l0 (l : List S27) (hl : l.length ≤ 4000000) : ∀ d k i, i + d = l.length → d < k → laws_eqFractionS.l0 k l l (i : Int) = some true := by
  intro d
  induction d with
  | zero =>
    intro k i h hk
    obtain ⟨k, rfl⟩ : ∃ m, k = m + 1 := ⟨k - 1, by omega⟩
    simp only [laws_eqFractionS.l0]
    rw [if_neg (by omega)]
  | succ d ih =>
    intro k i h hk
    obtain ⟨k, rfl⟩ : ∃ m, k = m + 1 := ⟨k - 1, by omega⟩
    simp only [laws_eqFractionS.l0]
    unfold laws_eqFraction.f
    rw [if_pos (by omega), if_pos (by omega), if_pos (by omega), if_pos rfl, if_pos rfl, Option.bind_some, if_pos rfl, wrap_nat _ (by omega), ih k (i + 1) (by omega) (by omega)]
theorem eqFractionS_f (k : Nat) (l : List S27) (hl : l.length ≤ 4000000) (hk : l.length < k) : laws_eqFractionS.f k l l = some true := by
  unfold laws_eqFractionS.f
  rw [if_pos rfl]
  have := eqFractionS_l0 l hl l.length k 0 (by omega) hk
  simpa using this
theorem totF_mem {l : List (List S27)} {r : List S27} (h : r ∈ l) : r.length ≤ totF l := by
  induction l with
  | nil => cases h
  | cons x l ih =>
    simp only [totF]
    rcases List.mem_cons.1 h with rfl | h
    · omega
    · have := ih h; omega
theorem eqFractionSS_l0 (l : List (List S27)) (hl : l.length ≤ 2000000) (ht : totF l ≤ 2000000) : ∀ d k i, i + d = l.length → d + totF l < k → laws_eqFractionSS.l0 k l l (i : Int) = some true := by
  intro d
  induction d with
  | zero =>
    intro k i h hk
    obtain ⟨k, rfl⟩ : ∃ m, k = m + 1 := ⟨k - 1, by omega⟩
    simp only [laws_eqFractionSS.l0]
    rw [if_neg (by omega)]
  | succ d ih =>
    intro k i h hk
    obtain ⟨k, rfl⟩ : ∃ m, k = m + 1 := ⟨k - 1, by omega⟩
    have hm := totF_mem (List.getElem_mem (show i < l.length by omega))
    simp only [laws_eqFractionSS.l0]
    rw [if_pos (by omega), if_pos (by omega), if_pos (by omega), rdFF_nat l i (by omega), eqFractionS_f k _ (by omega) (by omega), Option.bind_some, if_pos rfl, wrap_nat _ (by omega), ih k (i + 1) (by omega) (by omega)]
theorem eqFractionSS_f (k : Nat) (l : List (List S27)) (hl : l.length ≤ 2000000) (ht : totF l ≤ 2000000) (hk : l.length + totF l < k) : laws_eqFractionSS.f k l l = some true := by
  unfold laws_eqFractionSS.f
  rw [if_pos rfl]
  have := eqFractionSS_l0 l hl ht l.length k 0 (by omega) hk
  simpa using this
end Go.Proofs.Ytcklefgkbddlhaa.Pure
/- Plain lemmas on what the printed functions over lists of whole numbers compute. -/
namespace Go.Proofs.Ytcklefgkbddlhaa.Pure
open Go.RowKit Go.Proofs.Ytcklefgkbddlhaa.P Go.Proofs.YtcklefgkbddlhaaW.PrintWords Go.Proofs.YtcklefgkbddlhaaW.PrintLast
set_option linter.unusedVariables false
set_option linter.unusedSimpArgs false

/-- The marks from m on, n of them. -/
def marks (m : Int) : Nat → List Int
  | 0 => []
  | n + 1 => m :: marks (m + 1) n
theorem marks_length (n : Nat) : ∀ m, (marks m n).length = n := by
  induction n with
  | zero => intro m; rfl
  | succ n ih => intro m; simp [marks, ih]
theorem markInt64S_l0 : ∀ d k i (x : List Int) (m : Int), i + d = x.length → x.length ≤ 4000000 → d < k → 0 ≤ m → m ≤ 1000000000 → laws_markInt64S.l0 k x (m + i) (i : Int) = some (m + x.length, x.take i ++ marks (m + i) d) := by
  intro d
  induction d with
  | zero =>
    intro k i x m h hl hk h0 h1
    obtain ⟨k, rfl⟩ : ∃ m, k = m + 1 := ⟨k - 1, by omega⟩
    simp only [laws_markInt64S.l0]
    rw [if_neg (by omega), List.take_of_length_le (by omega)]
    simp only [marks, List.append_nil]
    rw [show i = x.length by omega]
  | succ d ih =>
    intro k i x m h hl hk h0 h1
    obtain ⟨k, rfl⟩ : ∃ m, k = m + 1 := ⟨k - 1, by omega⟩
    simp only [laws_markInt64S.l0]
    rw [if_pos (by omega), if_pos (by omega), wrap_nat _ (by omega), wrap_of (m + i + 1) (by omega) (by omega), show m + (i : Int) + 1 = m + ((i + 1 : Nat) : Int) by omega, Int.toNat_natCast]
    rw [ih k (i + 1) (x.set i (m + i)) m (by simp; omega) (by simpa using hl) (by omega) h0 h1, take_set x i _ (by omega), List.length_set, List.append_assoc]
    simp only [marks, List.singleton_append]
    rw [show m + (i : Int) + 1 = m + ((i + 1 : Nat) : Int) by omega]
theorem markInt64S_f (k : Nat) (x : List Int) (m : Int) (hl : x.length ≤ 4000000) (hk : x.length < k) (h0 : 0 ≤ m) (h1 : m ≤ 1000000000) : laws_markInt64S.f k x m = some (m + x.length, marks m x.length) := by
  unfold laws_markInt64S.f
  have := markInt64S_l0 x.length k 0 x m (by omega) hl hk h0 h1
  simpa using this
end Go.Proofs.Ytcklefgkbddlhaa.Pure
/- Plain lemmas on what the laws do with series that come in: sizes, copies, equality. -/
namespace Go.Proofs.Ytcklefgkbddlhaa.Pure
open Go.RowKit Go.Proofs.Ytcklefgkbddlhaa.P Go.Proofs.YtcklefgkbddlhaaW.PrintWords Go.Proofs.YtcklefgkbddlhaaW.PrintLast
set_option linter.unusedVariables false
set_option linter.unusedSimpArgs false

theorem rdI_nat' (l : List S89) (i : Nat) (h : i < l.length) : rd_T89 l (i : Int) = l[i] := by simp [rd_T89, List.getD_eq_getElem?_getD, h]
theorem rdL_nat (l : List S124) (i : Nat) (h : i < l.length) : rd_T124 l (i : Int) = l[i] := by simp [rd_T124, List.getD_eq_getElem?_getD, h]
/-- A term of the laws as one of the program. -/
def tmOf (x : S124) : S89 := ⟨x.f0, ⟨x.f1.f0, x.f1.f1⟩⟩
theorem toTermS_l0 (l : List S124) (hl : l.length ≤ 1048576) : ∀ d k i (x : List S89), i + d = l.length → d < k → x.length = l.length → laws_toTermS.l0 k l x (i : Int) = some (x.take i ++ (l.drop i).map tmOf) := by
  intro d
  induction d with
  | zero =>
    intro k i x h hk hx
    obtain ⟨k, rfl⟩ : ∃ m, k = m + 1 := ⟨k - 1, by omega⟩
    simp only [laws_toTermS.l0]
    rw [if_neg (by omega), List.drop_of_length_le (by omega), List.take_of_length_le (by omega), List.map_nil, List.append_nil]
  | succ d ih =>
    intro k i x h hk hx
    obtain ⟨k, rfl⟩ : ∃ m, k = m + 1 := ⟨k - 1, by omega⟩
    simp only [laws_toTermS.l0]
    rw [if_pos (by omega), if_pos (by omega), rdL_nat l i (by omega)]
    unfold laws_toTerm.f laws_toFraction.f
    simp only [Option.bind_some]
    rw [if_pos (by omega), wrap_nat _ (by omega), ih k (i + 1) _ (by omega) (by omega) (by simpa using hx), Int.toNat_natCast, take_setA x i _ (by omega), List.append_assoc, List.drop_eq_getElem_cons (show i < l.length by omega)]
    rfl
theorem toTermS_f (k : Nat) (l : List S124) (hl : l.length ≤ 1048576) (hk : l.length < k) : laws_toTermS.f k l = some (l.map tmOf) := by
  unfold laws_toTermS.f
  rw [if_pos (by omega), if_pos (by omega)]
  have := toTermS_l0 l hl l.length k 0 (List.replicate ((l.length : Int)).toNat z89) (by omega) hk (by simp)
  simpa using this
theorem toSeries_f (k : Nat) (d n : Int) (l : List S124) (hl : l.length ≤ 1048576) (hk : l.length < k) : laws_toSeries.f k d n l = some (d, n, l.map tmOf) := by
  unfold laws_toSeries.f
  rw [toTermS_f k l hl hk, Option.bind_some]
theorem eqTermS_l0 (l : List S89) (hl : l.length ≤ 1048576) : ∀ d k i, i + d = l.length → d < k → laws_eqTermS.l0 k l l (i : Int) = some true := by
  intro d
  induction d with
  | zero =>
    intro k i h hk
    obtain ⟨k, rfl⟩ : ∃ m, k = m + 1 := ⟨k - 1, by omega⟩
    simp only [laws_eqTermS.l0]
    rw [if_neg (by omega)]
  | succ d ih =>
    intro k i h hk
    obtain ⟨k, rfl⟩ : ∃ m, k = m + 1 := ⟨k - 1, by omega⟩
    simp only [laws_eqTermS.l0]
    rw [if_pos (by omega), if_pos (by omega), if_pos (by omega), wrap_nat _ (by omega), ih k (i + 1) (by omega) (by omega)]
    unfold laws_eqTerm.f laws_eqFraction.f
    simp
theorem eqTermS_f (k : Nat) (l : List S89) (hl : l.length ≤ 1048576) (hk : l.length < k) : laws_eqTermS.f k l l = some true := by
  unfold laws_eqTermS.f
  rw [if_pos rfl]
  exact eqTermS_l0 l hl l.length k 0 (by omega) hk
theorem eqSeries_f (k : Nat) (d n : Int) (l : List S89) (hl : l.length ≤ 1048576) (hk : l.length < k) : laws_eqSeries.f k d n l d n l = some true := by
  unfold laws_eqSeries.f
  rw [if_pos rfl, if_pos rfl, eqTermS_f k l hl hk]
  rfl
/-- What has not run out. -/
def Left (t : Int) (l : List S124) (left : Int) : Prop := t < 0 ∨ (0 ≤ t ∧ t ≤ left ∧ ∀ x ∈ l, (x.f0.size : Int) ≤ left)
theorem szTermS_l0 (l : List S124) (hw : ∀ x ∈ l, x.f0.size ≤ maxLen) (hl : l.length ≤ 1048576) : ∀ d k i left, i + d = l.length → d < k → 0 ≤ left → left ≤ 1048576 → ∃ t, laws_szTermS.l0 k l left (i : Int) = some t ∧ Left t (l.drop i) left := by
  have hM : maxLen = 9223372036854775807 := rfl
  intro d
  induction d with
  | zero =>
    intro k i left h hk h0 h1
    obtain ⟨k, rfl⟩ : ∃ m, k = m + 1 := ⟨k - 1, by omega⟩
    refine ⟨left, ?_, .inr ⟨h0, Int.le_refl _, ?_⟩⟩
    · simp only [laws_szTermS.l0]
      rw [if_neg (by omega)]
    · rw [List.drop_of_length_le (by omega)]
      intro x hx; cases hx
  | succ d ih =>
    intro k i left h hk h0 h1
    obtain ⟨k, rfl⟩ : ∃ m, k = m + 1 := ⟨k - 1, by omega⟩
    have hi : i < l.length := by omega
    have hs := hw l[i] (List.getElem_mem _)
    have hwr : wrap64 (left - (l[i].f0.size : Int)) = left - (l[i].f0.size : Int) := wrap_of _ (by omega) (by omega)
    simp only [laws_szTermS.l0]
    rw [if_pos (by omega), if_pos (by omega), rdL_nat l i hi]
    unfold laws_szTerm.f
    rw [hwr]
    by_cases hc : left - (l[i].f0.size : Int) < 0
    · refine ⟨-1, ?_, .inl (by decide)⟩
      rw [if_pos hc, Option.bind_some, if_pos (by decide)]
    · obtain ⟨t, ht, hL⟩ := ih k (i + 1) (left - (l[i].f0.size : Int)) (by omega) (by omega) (by omega) (by omega)
      refine ⟨t, ?_, ?_⟩
      · rw [if_neg hc, Option.bind_some, if_neg (by omega), wrap_nat _ (by omega)]
        exact ht
      · rcases hL with hL | ⟨a, b, c⟩
        · exact .inl hL
        · refine .inr ⟨a, by omega, ?_⟩
          rw [List.drop_eq_getElem_cons hi]
          intro x hx
          rcases List.mem_cons.1 hx with rfl | hx
          · omega
          · have := c x hx; omega
theorem szTermS_f (k : Nat) (l : List S124) (left : Int) (hw : ∀ x ∈ l, x.f0.size ≤ maxLen) (hl : l.length ≤ maxLen) (hk : 1048576 < k) (h0 : 0 ≤ left) (h1 : left ≤ 1048576) :
    ∃ t, laws_szTermS.f k l left = some t ∧ (t < 0 ∨ (0 ≤ t ∧ t + (l.length : Int) ≤ left ∧ (l.length : Int) ≤ left ∧ ∀ x ∈ l, (x.f0.size : Int) ≤ left)) := by
  have hM : maxLen = 9223372036854775807 := rfl
  unfold laws_szTermS.f
  rw [wrap_of _ (by omega) (by omega)]
  by_cases hc : left - (l.length : Int) < 0
  · exact ⟨-1, by rw [if_pos hc], .inl (by decide)⟩
  · obtain ⟨t, ht, hL⟩ := szTermS_l0 l hw (by omega) l.length k 0 (left - (l.length : Int)) (by omega) (by omega) (by omega) (by omega)
    refine ⟨t, by rw [if_neg hc]; exact ht, ?_⟩
    rcases hL with hL | ⟨a, b, c⟩
    · exact .inl hL
    · refine .inr ⟨a, by omega, by omega, fun x hx => ?_⟩
      have := c x (by rw [List.drop_zero]; exact hx)
      omega
theorem szSeries_f (k : Nat) (d n : Int) (l : List S124) (left : Int) (hw : ∀ x ∈ l, x.f0.size ≤ maxLen) (hl : l.length ≤ maxLen) (hk : 1048576 < k) (h0 : 0 ≤ left) (h1 : left ≤ 1048576) :
    ∃ t, laws_szSeries.f k d n l left = some t ∧ (t < 0 ∨ (0 ≤ t ∧ t + (l.length : Int) ≤ left ∧ (l.length : Int) ≤ left ∧ ∀ x ∈ l, (x.f0.size : Int) ≤ left)) := by
  obtain ⟨t, ht, h⟩ := szTermS_f k l left hw hl hk h0 h1
  unfold laws_szSeries.f
  rw [ht, Option.bind_some]
  by_cases hc : t < 0
  · exact ⟨-1, by rw [if_pos hc], .inl (by decide)⟩
  · exact ⟨t, by rw [if_neg hc], h⟩
theorem tmOf_mem {l : List S124} {m : Nat} (h : ∀ x ∈ l, (x.f0.size : Int) ≤ m) : ∀ t ∈ l.map tmOf, t.f0.size ≤ m := by
  intro t ht
  obtain ⟨x, hx, rfl⟩ := List.mem_map.1 ht
  have := h x hx
  show x.f0.size ≤ m
  omega
end Go.Proofs.Ytcklefgkbddlhaa.Pure
/- Plain lemmas: is a fraction one, as both programs ask it? -/
namespace Go.Proofs.Ytcklefgkbddlhaa.Pure
open Go.RowKit Go.Proofs.Ytcklefgkbddlhaa.P Go.Proofs.YtcklefgkbddlhaaW.PrintWords Go.Proofs.YtcklefgkbddlhaaW.PrintLast
set_option linter.unusedVariables false
set_option linter.unusedSimpArgs false

theorem spec_in_f (n lo hi : Int) : spec_l01In.f n lo hi = some (decide (lo ≤ n) && decide (n ≤ hi)) := by
  unfold spec_l01In.f
  by_cases h : n ≥ lo
  · rw [if_pos h]; simp [show lo ≤ n from h]
  · rw [if_neg h]; simp [show ¬ lo ≤ n from h]
theorem impl_within_f (n lo hi : Int) : impl_within.f n lo hi = some (decide (lo ≤ n) && decide (n ≤ hi)) := by
  unfold impl_within.f
  by_cases h : n ≥ lo
  · rw [if_pos h]; simp [show lo ≤ n from h]
  · rw [if_neg h]; simp [show ¬ lo ≤ n from h]
theorem impl_upTo_f (n m : Int) (h0 : -1000000000000000000 ≤ m) (h1 : m ≤ 1000000000000000000) : impl_upTo.f n m = some (decide (-m ≤ n) && decide (n ≤ m)) := by
  unfold impl_upTo.f
  rw [impl_within_f, Option.bind_some, wrap_of _ (by omega) (by omega)]
/-- A fraction that is one. -/
def fitF (a b : Int) : Bool := (decide (1 ≤ b) && decide (b ≤ 1000000000)) && ((decide (-1000000000 ≤ a) && decide (a ≤ 1000000000)) && decide (Int.gcd a b = 1))
theorem gcd_step (x y : Int) (h : y ≠ 0) : Int.gcd y (Int.tmod x y) = Int.gcd x y := by
  unfold Int.gcd
  rw [Int.natAbs_tmod, Nat.gcd_comm x.natAbs y.natAbs, Nat.gcd_comm y.natAbs (x.natAbs % y.natAbs), ← Nat.gcd_rec]
theorem tmod_lt (x y : Int) (h : y ≠ 0) : (Int.tmod x y).natAbs < y.natAbs := by
  rw [Int.natAbs_tmod]
  exact Nat.mod_lt _ (by omega)
theorem spec_gcd_f : ∀ (m : Nat) (x y : Int), y.natAbs ≤ m → x.natAbs ≤ 9000000000000000000 → y.natAbs ≤ 9000000000000000000 → Ev (fun k => spec_l01Gcd.f k x y) (Int.gcd x y : Int) := by
  intro m
  induction m with
  | zero =>
    intro x y hy h1 h2
    obtain rfl : y = 0 := by omega
    refine Ev.step (f := fun _ => some ((Int.gcd x 0 : Nat) : Int)) (fun k => ?_) (Ev.now _)
    simp only [spec_l01Gcd.f, spec_l01Gcd.l0]
    rw [if_pos trivial, wrap_of _ (by omega) (by omega), Int.gcd_zero_right]
    congr 1
    unfold mx
    split <;> omega
  | succ m ih =>
    intro x y hy h1 h2
    by_cases h0 : y = 0
    · exact ih x y (by omega) h1 h2
    · have h := ih y (Int.tmod x y) (by have := tmod_lt x y h0; omega) h2 (by have := tmod_lt x y h0; omega)
      rw [gcd_step x y h0] at h
      refine Ev.step (fun k => ?_) h
      simp only [spec_l01Gcd.f, spec_l01Gcd.l0]
      rw [if_neg h0]
theorem impl_common_l0 : ∀ (m : Nat) (x y : Int), y.natAbs ≤ m → 0 ≤ x → 0 ≤ y → Ev (fun k => impl_common.l0 k x y) (Int.gcd x y : Int) := by
  intro m
  induction m with
  | zero =>
    intro x y hy h1 h2
    obtain rfl : y = 0 := by omega
    refine Ev.step (f := fun _ => some ((Int.gcd x 0 : Nat) : Int)) (fun k => ?_) (Ev.now _)
    simp only [impl_common.l0]
    rw [if_pos trivial, Int.gcd_zero_right]
    congr 1
    omega
  | succ m ih =>
    intro x y hy h1 h2
    by_cases h0 : y = 0
    · exact ih x y (by omega) h1 h2
    · have h := ih y (Int.tmod x y) (by have := tmod_lt x y h0; omega) h2 (Int.tmod_nonneg y h1)
      rw [gcd_step x y h0] at h
      refine Ev.step (fun k => ?_) h
      simp only [impl_common.l0]
      rw [if_neg h0]
theorem size_natAbs (x : Int) (h : x.natAbs ≤ 9000000000000000000) : impl_size.f x = some (x.natAbs : Int) := by
  unfold impl_size.f
  rw [wrap_of _ (by omega) (by omega)]
  congr 1
  unfold mx
  split <;> omega
theorem impl_common_f (x y : Int) (h1 : x.natAbs ≤ 9000000000000000000) (h2 : y.natAbs ≤ 9000000000000000000) : Ev (fun k => impl_common.f k x y) (Int.gcd x y : Int) := by
  have h := impl_common_l0 y.natAbs (x.natAbs : Int) (y.natAbs : Int) (by omega) (by omega) (by omega)
  refine Ev.congr (fun k => ?_) (show Ev (fun k => impl_common.l0 k (x.natAbs : Int) (y.natAbs : Int)) (Int.gcd x y : Int) from by
    have e : Int.gcd (x.natAbs : Int) (y.natAbs : Int) = Int.gcd x y := by simp [Int.gcd]
    rw [e] at h
    exact h)
  unfold impl_common.f
  rw [size_natAbs x h1, size_natAbs y h2]
  rfl
theorem gcd_one (a b : Int) : (((Int.gcd a b : Nat) : Int) == 1) = decide (Int.gcd a b = 1) := by
  rw [Bool.eq_iff_iff, beq_iff_eq, decide_eq_true_eq]
  omega
theorem spec_isFrac_f (a b : Int) : Ev (fun k => spec_l01IsFrac.f k a b) (fitF a b) := by
  unfold spec_l01IsFrac.f fitF
  simp only [spec_in_f, Option.bind_some]
  by_cases hb : (decide (1 ≤ b) && decide (b ≤ 1000000000)) = true
  · rw [hb]
    by_cases ha : (decide (-1000000000 ≤ a) && decide (a ≤ 1000000000)) = true
    · rw [ha]
      simp only [if_true, Bool.true_and]
      simp only [Bool.and_eq_true, decide_eq_true_eq] at ha hb
      have h := Ev.bind (f := fun _ t => some (t == (1 : Int))) (spec_gcd_f b.natAbs a b (Nat.le_refl _) (by omega) (by omega)) (Ev.now _)
      rw [gcd_one] at h
      exact h
    · rw [Bool.eq_false_iff.mpr ha]
      exact Ev.now _
  · rw [Bool.eq_false_iff.mpr hb]
    exact Ev.now _
theorem impl_isFraction_f (a b : Int) : Ev (fun k => impl_IsFraction.f k a b) (fitF a b) := by
  unfold impl_IsFraction.f fitF
  simp only [impl_within_f, impl_upTo_f a 1000000000 (by decide) (by decide), Option.bind_some]
  by_cases hb : (decide (1 ≤ b) && decide (b ≤ 1000000000)) = true
  · rw [hb]
    by_cases ha : (decide (-1000000000 ≤ a) && decide (a ≤ 1000000000)) = true
    · rw [ha]
      simp only [if_true, Bool.true_and]
      simp only [Bool.and_eq_true, decide_eq_true_eq] at ha hb
      have h := Ev.bind (f := fun _ t => some (t == (1 : Int))) (impl_common_f a b (by omega) (by omega)) (Ev.now _)
      rw [gcd_one] at h
      exact h
    · rw [Bool.eq_false_iff.mpr ha]
      exact Ev.now _
  · rw [Bool.eq_false_iff.mpr hb]
    exact Ev.now _
end Go.Proofs.Ytcklefgkbddlhaa.Pure
/- Plain lemmas: numbers of letters and levels, as both programs judge them. -/
namespace Go.Proofs.Ytcklefgkbddlhaa.Pure
open Go.RowKit Go.Proofs.Ytcklefgkbddlhaa.P Go.Proofs.YtcklefgkbddlhaaW.PrintWords Go.Proofs.YtcklefgkbddlhaaW.PrintLast
set_option linter.unusedVariables false
set_option linter.unusedSimpArgs false

/-- A number of letters, and a level for them. -/
def lvlOk (d n : Int) : Bool := (decide (1 ≤ d) && decide (d ≤ 3)) && ((decide (1 ≤ n) && decide (n ≤ 5)) && (decide (d < 3) || decide (n < 5)))
theorem lvlOk_bounds {d n : Int} (h : lvlOk d n = true) : 1 ≤ d ∧ d ≤ 3 ∧ 1 ≤ n ∧ n ≤ 5 := by
  unfold lvlOk at h
  simp only [Bool.and_eq_true, decide_eq_true_eq] at h
  omega
theorem impl_areLetters_f (d : Int) : impl_areLetters.f d = some (decide (1 ≤ d) && decide (d ≤ 3)) := by
  unfold impl_areLetters.f
  rw [impl_within_f, Option.bind_some]
theorem impl_isLevel_f (d n : Int) : impl_isLevel.f d n = some (lvlOk d n) := by
  unfold impl_isLevel.f lvlOk
  rw [impl_areLetters_f, impl_within_f]
  simp only [Option.bind_some]
  cases decide (1 ≤ d) && decide (d ≤ 3) with
  | false => rfl
  | true =>
    cases decide (1 ≤ n) && decide (n ≤ 5) with
    | false => rfl
    | true =>
      by_cases h : d < 3
      · simp [h]
      · simp [h]
theorem spec_sizes_f (d n : Int) : spec_l01Sizes.f d n = some (lvlOk d n) := by
  unfold spec_l01Sizes.f lvlOk
  rw [spec_in_f, spec_in_f]
  simp only [Option.bind_some]
  cases decide (1 ≤ d) && decide (d ≤ 3) with
  | false => rfl
  | true =>
    cases decide (1 ≤ n) && decide (n ≤ 5) with
    | false => rfl
    | true =>
      by_cases h : d < 3
      · simp [h]
      · simp [h]; omega
end Go.Proofs.Ytcklefgkbddlhaa.Pure
/- Plain lemmas: is a series one, as both programs ask it? -/
namespace Go.Proofs.Ytcklefgkbddlhaa.Pure
open Go.RowKit Go.Proofs.Ytcklefgkbddlhaa.P Go.Proofs.YtcklefgkbddlhaaW.PrintWords Go.Proofs.YtcklefgkbddlhaaW.PrintLast
set_option linter.unusedVariables false
set_option linter.unusedSimpArgs false

theorem rdI_nat (l : List S89) (i : Nat) (h : i < l.length) : rd_T89 l (i : Int) = l[i] := by simp [rd_T89, List.getD_eq_getElem?_getD, h]
/-- All bytes are letters. -/
def isWd (d : Int) (s : ByteArray) : Nat → Nat → Bool
  | 0, _ => true
  | n + 1, i => (decide (48 ≤ bt s i) && decide (bt s i < 48 + d)) && isWd d s n (i + 1)
theorem spec_word_l0 (d : Int) (hd : 1 ≤ d) (hd3 : d ≤ 3) (s : ByteArray) (hs : s.size ≤ 1048576) : ∀ n k i, i + n = s.size → n < k → spec_l01Word.l0 k d s (i : Int) = some (isWd d s n i) := by
  intro n
  induction n with
  | zero =>
    intro k i h hk
    obtain ⟨k, rfl⟩ : ∃ m, k = m + 1 := ⟨k - 1, by omega⟩
    rw [spec_l01Word.l0, if_neg (by omega)]; rfl
  | succ n ih =>
    intro k i h hk
    obtain ⟨k, rfl⟩ : ∃ m, k = m + 1 := ⟨k - 1, by omega⟩
    have hb := bt_range s i
    rw [spec_l01Word.l0, if_pos (by omega), if_pos (by omega), wrap_nat _ (by omega), ih k (i + 1) (by omega) (by omega), isWd]
    by_cases h1 : bt s i < 48
    · rw [if_pos h1, decide_eq_false (by omega : ¬ 48 ≤ bt s i)]; rfl
    · rw [if_neg h1, decide_eq_true (by omega : 48 ≤ bt s i)]
      by_cases h2 : (bt s i - 48) % 256 ≥ d
      · rw [if_pos h2, decide_eq_false (by omega : ¬ bt s i < 48 + d)]; rfl
      · rw [if_neg h2, decide_eq_true (by omega : bt s i < 48 + d)]; simp
theorem impl_word_l0 (d : Int) (hd : 1 ≤ d) (hd3 : d ≤ 3) (s : ByteArray) (hs : s.size ≤ 1048576) (m : Int) : ∀ n k i, i + n = s.size → n < k → impl_isWord.l0 k d s m (s.size : Int) (i : Int) = some (isWd d s n i && decide ((s.size : Int) ≤ m)) := by
  intro n
  induction n with
  | zero =>
    intro k i h hk
    obtain ⟨k, rfl⟩ : ∃ m, k = m + 1 := ⟨k - 1, by omega⟩
    rw [impl_isWord.l0, if_neg (by omega)]; rfl
  | succ n ih =>
    intro k i h hk
    obtain ⟨k, rfl⟩ : ∃ m, k = m + 1 := ⟨k - 1, by omega⟩
    have hb := bt_range s i
    rw [impl_isWord.l0, if_pos (by omega), if_pos (by omega), if_pos (by omega), wrap_nat _ (by omega), wrap_of (bt s i) (by omega) (by omega), wrap_of (48 + d) (by omega) (by omega), ih k (i + 1) (by omega) (by omega), isWd]
    by_cases h1 : bt s i < 48
    · rw [if_pos h1, decide_eq_false (by omega : ¬ 48 ≤ bt s i)]; rfl
    · rw [if_neg h1, decide_eq_true (by omega : 48 ≤ bt s i)]
      by_cases h2 : bt s i ≥ 48 + d
      · rw [if_pos h2, decide_eq_false (by omega : ¬ bt s i < 48 + d)]; rfl
      · rw [if_neg h2, decide_eq_true (by omega : bt s i < 48 + d)]; simp
theorem spec_word_f (d : Int) (hd : 1 ≤ d) (hd3 : d ≤ 3) (s : ByteArray) (hs : s.size ≤ 1048576) : Ev (fun k => spec_l01Word.f k d s) (isWd d s s.size 0) :=
  ⟨s.size + 1, fun k hk => spec_word_l0 d hd hd3 s hs s.size k 0 (by omega) (by omega)⟩
theorem impl_word_f (d : Int) (hd : 1 ≤ d) (hd3 : d ≤ 3) (s : ByteArray) (hs : s.size ≤ 1048576) (m : Int) : Ev (fun k => impl_isWord.f k d s m) (isWd d s s.size 0 && decide ((s.size : Int) ≤ m)) :=
  ⟨s.size + 1, fun k hk => impl_word_l0 d hd hd3 s hs m s.size k 0 (by omega) (by omega)⟩
/-- The order of words. -/
def befW (v w : ByteArray) : Bool := if v.size = w.size then Op.bytesLess v.toList w.toList else decide (v.size < w.size)
theorem cmp_less : ∀ a b : List UInt8, decide (Lib.compareBytes a b ≥ 0) = !(Op.bytesLess a b)
  | [], [] => rfl
  | [], _ :: _ => rfl
  | _ :: _, [] => rfl
  | a :: ar, b :: br => by
    have ih := cmp_less ar br
    unfold Lib.compareBytes Op.bytesLess
    by_cases h : a < b
    · simp [h]
    · by_cases h2 : b < a
      · have h3 : ¬ a = b := fun e => by subst e; exact h h2
        simp [h, h2, h3]
      · have h3 : a = b := UInt8.le_antisymm (UInt8.not_lt.1 h2) (UInt8.not_lt.1 h)
        subst h3
        simp [h]
        simpa using ih
theorem compare_before (v w : ByteArray) (hv : v.size ≤ 1048576) (hw : w.size ≤ 1048576) : ∃ t, impl_compareWords.f v w = some t ∧ (t ≥ 0 ↔ befW v w = false) := by
  refine ⟨_, rfl, ?_⟩
  unfold befW
  by_cases h : v.size = w.size
  · rw [if_pos h, if_pos h]
    have := cmp_less v.data.toList w.data.toList
    rw [ByteArray.toList_eq v, ByteArray.toList_eq w]
    constructor
    · intro h1
      rw [decide_eq_true h1] at this
      cases hh : Op.bytesLess v.data.toList w.data.toList with
      | true => rw [hh] at this; cases this
      | false => rfl
    · intro h1
      rw [h1] at this
      exact of_decide_eq_true this
  · rw [if_neg h, if_neg h, wrap_of _ (by omega) (by omega), decide_eq_false_iff_not]
    omega
theorem spec_before_f (v w : ByteArray) : spec_l01Before.f v w = some (befW v w) := by
  unfold spec_l01Before.f befW
  by_cases h : v.size = w.size
  · rw [if_pos (by omega), if_pos h]
  · rw [if_neg (by omega), if_neg h]
    congr 1
    rw [decide_eq_decide]
    omega
def termOk (d n : Int) (t : S89) : Bool := (isWd d t.f0 t.f0.size 0 && decide ((t.f0.size : Int) ≤ n)) && (fitF t.f1.f0 t.f1.f1 && decide (t.f1.f0 ≠ 0))
def prevOk (v : Option ByteArray) (w : ByteArray) : Bool := match v with | none => true | some v => befW v w
def termsFrom (d n : Int) : Option ByteArray → List S89 → Bool
  | _, [] => true
  | p, t :: l => termOk d n t && prevOk p t.f0 && termsFrom d n (some t.f0) l
def prevAt (l : List S89) : Nat → Option ByteArray
  | 0 => none
  | i + 1 => (l[i]?).map (·.f0)
def serOk (d n : Int) (l : List S89) : Bool := lvlOk d n && termsFrom d n none l
/-- Words that are not too long. -/
def Small (l : List S89) : Prop := l.length ≤ 1048576 ∧ ∀ t ∈ l, t.f0.size ≤ 1048576
section
variable (d n : Int) (hd : 1 ≤ d) (hd3 : d ≤ 3) (l : List S89) (hl : Small l)
include hd hd3 hl
theorem spec_terms : ∀ e i, i + e = l.length → Ev (fun k => spec_l01Is.l0 k (i : Int) d n l) (termsFrom d n (prevAt l i) (l.drop i)) := by
  have hll := hl.1
  intro e
  induction e with
  | zero =>
    intro i hi
    refine Ev.step (f := fun _ => some true) (fun k => ?_) ?_
    · simp only [spec_l01Is.l0]
      rw [if_neg (by omega)]
    · rw [List.drop_of_length_le (by omega)]
      exact Ev.now _
  | succ e ih =>
    intro i hi
    have hlt : i < l.length := by omega
    have hsz := hl.2 l[i] (List.getElem_mem _)
    rw [List.drop_eq_getElem_cons hlt, termsFrom]
    have hw := spec_word_f d hd hd3 l[i].f0 hsz
    have hf := spec_isFrac_f l[i].f1.f0 l[i].f1.f1
    have hj : Ev (fun k => spec_l01Is.j1 k (i : Int) (!(termOk d n l[i])) d n l l[i].f0 l[i].f1.f0 l[i].f1.f1) (termOk d n l[i] && prevOk (prevAt l i) l[i].f0 && termsFrom d n (some l[i].f0) (l.drop (i + 1))) := by
      cases ht : termOk d n l[i] with
      | false =>
        refine Ev.step (f := fun _ => some false) (fun k => ?_) (Ev.now _)
        simp only [spec_l01Is.j1, Bool.not_false, if_true]
      | true =>
        have hn : prevAt l (i + 1) = some l[i].f0 := by simp [prevAt, hlt]
        have h := ih (i + 1) (by omega)
        rw [hn] at h
        cases i with
        | zero =>
          refine Ev.step (fun k => ?_) (show Ev (fun k => spec_l01Is.l0 k ((0 + 1 : Nat) : Int) d n l) _ from h)
          simp only [spec_l01Is.j1, Bool.not_true, Bool.false_eq_true, if_false]
          rw [if_neg (by omega), wrap_nat _ (by omega)]
        | succ j =>
          have e1 : wrap64 (((j + 1 : Nat) : Int) - 1) = (j : Int) := by rw [wrap_of _ (by omega) (by omega)]; omega
          have hp : prevAt l (j + 1) = some l[j].f0 := by simp [prevAt, show j < l.length by omega]
          rw [hp, Bool.true_and, prevOk]
          cases hb : befW l[j].f0 l[j + 1].f0 with
          | false =>
            refine Ev.step (f := fun _ => some false) (fun k => ?_) (Ev.now _)
            simp only [spec_l01Is.j1, Bool.not_true, Bool.false_eq_true, if_false]
            rw [if_pos (by omega), e1, if_pos (by omega), if_pos (by omega), rdI_nat l j (by omega), spec_before_f, hb, Option.bind_some, if_neg (by decide)]
          | true =>
            refine Ev.step (fun k => ?_) (show Ev (fun k => spec_l01Is.l0 k ((j + 1 + 1 : Nat) : Int) d n l) _ from h)
            simp only [spec_l01Is.j1, Bool.not_true, Bool.false_eq_true, if_false]
            rw [if_pos (by omega), e1, if_pos (by omega), if_pos (by omega), rdI_nat l j (by omega), spec_before_f, hb, Option.bind_some, if_pos rfl, wrap_nat _ (by omega)]
    by_cases hs : (l[i].f0.size : Int) > n
    · have ht : termOk d n l[i] = false := by
        unfold termOk
        rw [decide_eq_false (show ¬ (l[i].f0.size : Int) ≤ n by omega), Bool.and_false, Bool.false_and]
      rw [ht, Bool.not_false] at hj
      rw [ht]
      refine Ev.step (fun k => ?_) hj
      simp only [spec_l01Is.l0]
      rw [if_pos (by omega), if_pos (by omega), rdI_nat l i hlt, if_pos hs]
    · refine Ev.step (f := fun k => (spec_l01Word.f k d l[i].f0).bind fun t => (if t = true then ((spec_l01IsFrac.f k l[i].f1.f0 l[i].f1.f1).bind fun t => (if t = true then ((spec_l01Zero.f l[i].f1.f0 l[i].f1.f1).bind fun t => spec_l01Is.j1 k (i : Int) t d n l l[i].f0 l[i].f1.f0 l[i].f1.f1) else spec_l01Is.j1 k (i : Int) true d n l l[i].f0 l[i].f1.f0 l[i].f1.f1)) else spec_l01Is.j1 k (i : Int) true d n l l[i].f0 l[i].f1.f0 l[i].f1.f1)) (fun k => ?_) ?_
      · simp only [spec_l01Is.l0]
        rw [if_pos (by omega), if_pos (by omega), rdI_nat l i hlt, if_neg hs]
      refine Ev.bind hw ?_
      cases hW : isWd d l[i].f0 l[i].f0.size 0 with
      | false =>
        have ht : termOk d n l[i] = false := by unfold termOk; rw [hW]; rfl
        rw [ht, Bool.not_false] at hj
        rw [ht]
        exact Ev.congr (fun k => if_neg (by decide)) hj
      | true =>
        refine Ev.congr (fun k => if_pos rfl) (Ev.bind hf ?_)
        cases hF : fitF l[i].f1.f0 l[i].f1.f1 with
        | false =>
          have ht : termOk d n l[i] = false := by unfold termOk; rw [hF]; simp
          rw [ht, Bool.not_false] at hj
          rw [ht]
          exact Ev.congr (fun k => if_neg (by decide)) hj
        | true =>
          refine Ev.congr (fun k => ?_) hj
          rw [if_pos rfl]
          unfold spec_l01Zero.f
          rw [Option.bind_some]
          have ht : (!(termOk d n l[i])) = (l[i].f1.f0 == 0) := by
            unfold termOk
            rw [hW, hF, decide_eq_true (show (l[i].f0.size : Int) ≤ n by omega)]
            by_cases h0 : l[i].f1.f0 = 0 <;> simp [h0]
          rw [ht]
theorem impl_terms : ∀ e i, i + e = l.length → Ev (fun k => impl_areTerms.l0 k d n l l (l.length : Int) (i : Int)) (termsFrom d n (prevAt l i) (l.drop i)) := by
  have hll := hl.1
  intro e
  induction e with
  | zero =>
    intro i hi
    refine Ev.step (f := fun _ => some true) (fun k => ?_) ?_
    · simp only [impl_areTerms.l0]
      rw [if_neg (by omega)]
    · rw [List.drop_of_length_le (by omega)]
      exact Ev.now _
  | succ e ih =>
    intro i hi
    have hlt : i < l.length := by omega
    have hsz := hl.2 l[i] (List.getElem_mem _)
    rw [List.drop_eq_getElem_cons hlt, termsFrom]
    have hw := impl_word_f d hd hd3 l[i].f0 hsz n
    have hf := impl_isFraction_f l[i].f1.f0 l[i].f1.f1
    have hn : prevAt l (i + 1) = some l[i].f0 := by simp [prevAt, hlt]
    have h := ih (i + 1) (by omega)
    rw [hn] at h
    refine Ev.step (f := fun k => (impl_isWord.f k d l[i].f0 n).bind fun t => (if t = true then ((impl_IsFraction.f k l[i].f1.f0 l[i].f1.f1).bind fun t => (if t = true then (if l[i].f1.f0 = 0 then (some false) else (if (i : Int) > 0 then (if 0 ≤ (wrap64 ((i : Int) - 1)) then (if (wrap64 ((i : Int) - 1)) < (l.length : Int) then ((impl_compareWords.f ((rd_T89 l (wrap64 ((i : Int) - 1))).f0) l[i].f0).bind fun t => (if t ≥ 0 then (some false) else (impl_areTerms.l0 k d n l l (l.length : Int) ((i + 1 : Nat) : Int)))) else (none)) else (none)) else (impl_areTerms.l0 k d n l l (l.length : Int) ((i + 1 : Nat) : Int)))) else (some false))) else (some false))) (fun k => ?_) ?_
    · simp only [impl_areTerms.l0]
      rw [if_pos (by omega), if_pos (by omega), if_pos (by omega), rdI_nat l i hlt, wrap_nat _ (by omega)]
    refine Ev.bind hw ?_
    unfold termOk
    cases hW : (isWd d l[i].f0 l[i].f0.size 0 && decide ((l[i].f0.size : Int) ≤ n)) with
    | false => exact Ev.congr (f := fun _ => some false) (fun k => if_neg (by decide)) (Ev.now _)
    | true =>
      refine Ev.congr (fun k => if_pos rfl) (Ev.bind hf ?_)
      cases hF : fitF l[i].f1.f0 l[i].f1.f1 with
      | false => exact Ev.congr (f := fun _ => some false) (fun k => if_neg (by decide)) (Ev.now _)
      | true =>
        by_cases h0 : l[i].f1.f0 = 0
        · refine Ev.congr (f := fun _ => some false) (fun k => by rw [if_pos rfl, if_pos h0]) ?_
          rw [h0]
          exact Ev.now _
        · rw [decide_eq_true h0]
          cases i with
          | zero =>
            refine Ev.congr (fun k => ?_) (show Ev (fun k => impl_areTerms.l0 k d n l l (l.length : Int) ((0 + 1 : Nat) : Int)) _ from h)
            rw [if_pos rfl, if_neg h0, if_neg (by omega)]
          | succ j =>
            have e1 : wrap64 (((j + 1 : Nat) : Int) - 1) = (j : Int) := by rw [wrap_of _ (by omega) (by omega)]; omega
            have hp : prevAt l (j + 1) = some l[j].f0 := by simp [prevAt, show j < l.length by omega]
            obtain ⟨t, ht, hc⟩ := compare_before l[j].f0 l[j + 1].f0 (hl.2 _ (List.getElem_mem _)) hsz
            rw [hp, prevOk]
            cases hb : befW l[j].f0 l[j + 1].f0 with
            | false =>
              refine Ev.congr (f := fun _ => some false) (fun k => ?_) (Ev.now _)
              rw [if_pos rfl, if_neg h0, if_pos (by omega), e1, if_pos (by omega), if_pos (by omega), rdI_nat l j (by omega), ht, Option.bind_some, if_pos (hc.2 hb)]
            | true =>
              refine Ev.congr (fun k => ?_) (show Ev (fun k => impl_areTerms.l0 k d n l l (l.length : Int) ((j + 1 + 1 : Nat) : Int)) _ from h)
              rw [if_pos rfl, if_neg h0, if_pos (by omega), e1, if_pos (by omega), if_pos (by omega), rdI_nat l j (by omega), ht, Option.bind_some, if_neg (fun hh => by rw [hc.1 hh] at hb; cases hb)]
end
theorem spec_is_f (d n : Int) (l : List S89) (hl : Small l) : Ev (fun k => spec_l01Is.f k d n l) (serOk d n l) := by
  unfold spec_l01Is.f serOk
  simp only [spec_sizes_f, Option.bind_some]
  cases h : lvlOk d n with
  | false => exact Ev.now _
  | true =>
    have hb := lvlOk_bounds h
    exact Ev.congr (fun k => if_pos rfl) (spec_terms d n hb.1 hb.2.1 l hl l.length 0 (by omega))
theorem impl_isSeries_f (d n : Int) (l : List S89) (hl : Small l) : Ev (fun k => impl_IsSeries.f k d n l) (serOk d n l) := by
  unfold impl_IsSeries.f serOk
  simp only [impl_isLevel_f, Option.bind_some]
  cases h : lvlOk d n with
  | false => exact Ev.now _
  | true =>
    have hb := lvlOk_bounds h
    refine Ev.congr (fun k => if_pos rfl) (Ev.bind (f := fun _ t => some t) (show Ev (fun k => impl_areTerms.f k d n l) _ from impl_terms d n hb.1 hb.2.1 l hl l.length 0 (by omega)) (Ev.now _))
end Go.Proofs.Ytcklefgkbddlhaa.Pure
/- Plain lemmas: when are matrices tables for the letters? -/
namespace Go.Proofs.Ytcklefgkbddlhaa.Pure
open Go.RowKit Go.Proofs.Ytcklefgkbddlhaa.P Go.Proofs.YtcklefgkbddlhaaW.PrintWords Go.Proofs.YtcklefgkbddlhaaW.PrintLast
set_option linter.unusedVariables false
set_option linter.unusedSimpArgs false

def okEntry (n : Int) : Bool := decide (-1000 ≤ n) && decide (n ≤ 1000)
/-- A square matrix with n rows. -/
def isSq (n : Nat) (m : List (List Int)) : Bool := decide (m.length = n) && m.all fun r => decide (r.length = n) && r.all okEntry
def areTabs (d : Int) (l : List (List (List Int))) : Bool := (decide (1 ≤ d) && decide (d ≤ 3)) && decide ((l.length : Int) = d) && (decide (1 ≤ dimOf l) && decide (dimOf l ≤ 6)) && l.all (isSq (dimOf l).toNat)
theorem spec_l08Are_l2 (l : List (List (List Int))) (n a i : Nat) (ha : a < l.length) (hl3 : l.length ≤ 3) (hn : n ≤ 6) (hm : l[a].length = n) (hi : i < l[a].length) (hr : l[a][i].length = n) : ∀ e k j, j + e = n →
    spec_l08Are.l2 (k + e + 1) l (n : Int) (a : Int) (i : Int) (j : Int) = if (l[a][i].drop j).all okEntry = true then spec_l08Are.l1 k l (n : Int) (a : Int) (wrap64 ((i : Int) + 1)) else some false := by
  intro e
  induction e with
  | zero =>
    intro k j h
    rw [show k + 0 + 1 = k + 1 from rfl, spec_l08Are.l2, if_neg (by omega), List.drop_of_length_le (by omega)]
    simp
  | succ e ih =>
    intro k j h
    rw [show k + (e + 1) + 1 = (k + e + 1) + 1 from by omega, spec_l08Are.l2, if_pos (by omega), if_pos (by omega), if_pos (by omega), if_pos (by omega), rdT_nat l a ha, if_pos (by omega), if_pos (by omega), rdR_nat _ i hi, if_pos (by omega), rd_nat _ j (by omega), spec_l01In_f, Option.bind_some, wrap_nat _ (by omega), ih k (j + 1) (by omega), List.drop_eq_getElem_cons (show j < l[a][i].length by omega), List.all_cons]
    unfold okEntry
    cases hb : (decide (-1000 ≤ l[a][i][j]) && decide (l[a][i][j] ≤ 1000)) <;> simp
theorem spec_l08Are_l1 (l : List (List (List Int))) (n a : Nat) (ha : a < l.length) (hl3 : l.length ≤ 3) (hn : n ≤ 6) (hm : l[a].length = n) (T : Bool) (m : Nat) (hT : ∀ k, m ≤ k → spec_l08Are.l0 k l (n : Int) (wrap64 ((a : Int) + 1)) = some T) : ∀ e k i, i + e = n → m + e * (n + 2) + 1 ≤ k →
    spec_l08Are.l1 k l (n : Int) (a : Int) (i : Int) = some (((l[a].drop i).all fun r => decide (r.length = n) && r.all okEntry) && T) := by
  intro e
  induction e with
  | zero =>
    intro k i h hk
    obtain ⟨k, rfl⟩ : ∃ m, k = m + 1 := ⟨k - 1, by omega⟩
    rw [spec_l08Are.l1, if_neg (by omega), hT k (by omega), List.drop_of_length_le (by omega)]
    simp
  | succ e ih =>
    intro k i h hk
    rw [Nat.succ_mul] at hk
    have hi : i < l[a].length := by omega
    obtain ⟨k, rfl⟩ : ∃ q, k = (q + n + 1) + 1 := ⟨k - n - 2, by omega⟩
    rw [spec_l08Are.l1, if_pos (by omega), if_pos (by omega), if_pos (by omega), if_pos (by omega), rdT_nat l a ha, if_pos (by omega), rdR_nat _ i hi, List.drop_eq_getElem_cons hi, List.all_cons]
    by_cases hr : l[a][i].length = n
    · have := spec_l08Are_l2 l n a i ha hl3 hn hm hi hr n k 0 (by omega)
      rw [List.drop_zero] at this
      rw [if_pos (by omega), decide_eq_true hr, show spec_l08Are.l2 (k + n + 1) l (n : Int) (a : Int) (i : Int) 0 = _ from this, wrap_nat _ (by omega), ih k (i + 1) (by omega) (by omega)]
      cases hb : l[a][i].all okEntry <;> simp
    · rw [if_neg (by omega), decide_eq_false hr]; simp
theorem spec_l08Are_l0 (l : List (List (List Int))) (n : Nat) (hl3 : l.length ≤ 3) (hn : n ≤ 6) : ∀ e k a, a + e = l.length → e * 60 + 1 ≤ k → spec_l08Are.l0 k l (n : Int) (a : Int) = some ((l.drop a).all (isSq n)) := by
  intro e
  induction e with
  | zero =>
    intro k a h hk
    obtain ⟨k, rfl⟩ : ∃ m, k = m + 1 := ⟨k - 1, by omega⟩
    rw [spec_l08Are.l0, if_neg (by omega), List.drop_of_length_le (by omega)]
    rfl
  | succ e ih =>
    intro k a h hk
    obtain ⟨k, rfl⟩ : ∃ m, k = m + 1 := ⟨k - 1, by omega⟩
    have ha : a < l.length := by omega
    rw [spec_l08Are.l0, if_pos (by omega), if_pos (by omega), rdT_nat l a ha, List.drop_eq_getElem_cons ha, List.all_cons]
    rw [show isSq n l[a] = (decide (l[a].length = n) && l[a].all fun r => decide (r.length = n) && r.all okEntry) from rfl]
    by_cases hm : l[a].length = n
    · have hb : n * (n + 2) ≤ 6 * 8 := Nat.mul_le_mul hn (by omega)
      have := spec_l08Are_l1 l n a ha hl3 hn hm ((l.drop (a + 1)).all (isSq n)) (e * 60 + 1) (fun k hk => by rw [wrap_nat _ (by omega)]; exact ih k (a + 1) (by omega) hk) n k 0 (by omega) (by omega)
      rw [List.drop_zero] at this
      rw [if_pos (by omega), decide_eq_true hm, show spec_l08Are.l1 k l (n : Int) (a : Int) 0 = _ from this]
      simp
    · rw [if_neg (by omega), decide_eq_false hm]; simp
theorem spec_l08Are_f (k : Nat) (d : Int) (l : List (List (List Int))) (hk : 300 ≤ k) (hl : l.length ≤ 4000000) : spec_l08Are.f k d l = some (areTabs d l) := by
  unfold spec_l08Are.f areTabs
  rw [spec_l01In_f, Option.bind_some]
  obtain ⟨k, rfl⟩ : ∃ m, k = m + 2 := ⟨k - 2, by omega⟩
  by_cases hb : 1 ≤ d ∧ d ≤ 3
  · rw [decide_eq_true hb.1, decide_eq_true hb.2, Bool.and_self, if_pos rfl]
    by_cases hd : (l.length : Int) = d
    · rw [decide_eq_true hd, hd, bne_self_eq_false, spec_l08Are.j0, if_neg (by simp), if_pos (by omega)]
      have h0 : ((rd_L7 l 0).length : Int) = dimOf l := by
        have := rdT_nat l 0 (by omega)
        rw [show rd_L7 l 0 = l[0] from this]
        unfold dimOf
        simp [List.getD_eq_getElem?_getD, show 0 < l.length by omega]
      rw [h0]
      by_cases h1 : 1 ≤ dimOf l
      · rw [if_neg (by omega), decide_eq_true h1]
        by_cases h6 : dimOf l ≤ 6
        · obtain ⟨n, hn⟩ : ∃ n : Nat, dimOf l = n := ⟨(dimOf l).toNat, by omega⟩
          have := spec_l08Are_l0 l n (by omega) (by omega) l.length k 0 (by omega) (by omega)
          rw [List.drop_zero] at this
          rw [decide_eq_true h6, decide_eq_false (by omega : ¬ dimOf l > 6), spec_l08Are.j1, if_neg (by simp), hn, show spec_l08Are.l0 k l (n : Int) 0 = _ from this]
          simp
        · rw [decide_eq_false h6, decide_eq_true (by omega : dimOf l > 6), spec_l08Are.j1, if_pos rfl]; simp
      · rw [if_pos (by omega), decide_eq_false h1, spec_l08Are.j1, if_pos rfl]; simp
    · rw [decide_eq_false hd, show ((l.length : Int) != d) = true from by simpa using hd, spec_l08Are.j0, if_pos rfl]; simp
  · have h : (decide (1 ≤ d) && decide (d ≤ 3)) = false := by
      by_cases h1 : 1 ≤ d
      · simp [h1, show ¬ d ≤ 3 from fun h2 => hb ⟨h1, h2⟩]
      · simp [h1]
    rw [h, if_neg (by simp), spec_l08Are.j0, if_pos rfl]
    simp
theorem not_any_not {α : Type} (p : α → Bool) (l : List α) : (!(l.any fun x => !(p x))) = l.all p := by
  induction l with
  | nil => rfl
  | cons a l ih => simp only [List.any_cons, List.all_cons, Bool.not_or, Bool.not_not, ih]
theorem upToB_1000 (x : Int) : Hand.upToB x 1000 = okEntry x := by unfold Hand.upToB okEntry; rw [wrap_of (-1000) (by omega) (by omega)]
theorem isMat_isSq (n : Nat) (m : List (List Int)) : isMat (n : Int) m = isSq n m := by
  unfold isMat isSq
  have e1 : ∀ r : List Int, (decide ((r.length : Int) ≠ (n : Int)) || !(!(r.any fun q => !(Hand.upToB q 1000)))) = !(decide (r.length = n) && r.all okEntry) := by
    intro r
    rw [not_any_not, show (fun x => Hand.upToB x 1000) = okEntry from funext upToB_1000]
    have hc : ((r.length : Int) = (n : Int)) = (r.length = n) := propext (by omega)
    simp only [ne_eq, hc]
    by_cases h : r.length = n <;> simp [h]
  rw [show (fun r : List Int => decide ((r.length : Int) ≠ (n : Int)) || !(!(r.any fun q => !(Hand.upToB q 1000)))) = fun r => !(decide (r.length = n) && r.all okEntry) from funext e1, not_any_not]
  congr 1
  have hc : ((m.length : Int) = (n : Int)) = (m.length = n) := propext (by omega)
  simp only [hc]
theorem impl_AreTables_f (d : Int) (l : List (List (List Int))) : impl_AreTables.f d l = some (areTabs d l) := by
  unfold impl_AreTables.f areTabs
  have h : dimOf l = ((dimOf l).toNat : Int) := by unfold dimOf; omega
  rw [not_any_not, show isMat (dimOf l) = isSq (dimOf l).toNat from funext fun m => by rw [h]; exact isMat_isSq _ m]

end Go.Proofs.Ytcklefgkbddlhaa.Pure
/- Plain lemmas: sums and products of fractions in lowest terms, as both programs reckon them. -/
namespace Go.Proofs.Ytcklefgkbddlhaa.Pure
open Go.RowKit Go.Proofs.Ytcklefgkbddlhaa.P Go.Proofs.YtcklefgkbddlhaaW.PrintWords Go.Proofs.YtcklefgkbddlhaaW.PrintLast
set_option linter.unusedVariables false
set_option linter.unusedSimpArgs false

theorem fitF_bounds {a b : Int} (h : fitF a b = true) : 1 ≤ b ∧ b ≤ 1000000000 ∧ -1000000000 ≤ a ∧ a ≤ 1000000000 := by
  unfold fitF at h
  simp only [Bool.and_eq_true, decide_eq_true_eq] at h
  omega
theorem Ev.ofEq {α β : Type} {g : Nat → Option α} {r : α} {f : α → Nat → Option β} {s : β} (h : Ev g r) (hf : Ev (f r) s) : Ev (fun k => (g k).bind fun x => f x k) s := by
  obtain ⟨K, hK⟩ := h
  obtain ⟨M, hM⟩ := hf
  refine ⟨K + M, fun k hk => ?_⟩
  dsimp only
  rw [hK k (by omega), Option.bind_some]
  exact hM k (by omega)
theorem Ev.some {α : Type} (r : α) : Ev (fun _ => Option.some r) r := ⟨0, fun _ _ => rfl⟩
theorem tdiv_bound (a g : Int) (h : a.natAbs ≤ 9000000000000000000) : (Int.tdiv a g).natAbs ≤ 9000000000000000000 := by
  rw [Int.natAbs_tdiv]
  exact Nat.le_trans (Nat.div_le_self _ _) h
/-- A fraction in lowest terms. -/
def redF (a b : Int) : Int × Int := (Int.tdiv a (Int.gcd a b), Int.tdiv b (Int.gcd a b))
theorem gcd_ne {a b : Int} (hb : 1 ≤ b) : ((Int.gcd a b : Nat) : Int) ≠ 0 := by
  intro h
  have h1 : Int.gcd a b = 0 := by omega
  have h2 := (Int.gcd_eq_zero_iff.1 h1).2
  omega
theorem spec_frac_f (a b : Int) (ha : a.natAbs ≤ 9000000000000000000) (hb : 1 ≤ b) (hb2 : b.natAbs ≤ 9000000000000000000) :
    Ev (fun k => spec_l01Frac.f k a b) (if fitF (redF a b).1 (redF a b).2 = true then ((redF a b).1, (redF a b).2, true) else (0, 0, false)) := by
  have hg := spec_gcd_f b.natAbs a b (Nat.le_refl _) ha hb2
  have h0 := gcd_ne (a := a) hb
  have w1 := tdiv_bound a (Int.gcd a b) ha
  have w2 := tdiv_bound b (Int.gcd a b) hb2
  refine Ev.congr (fun k => ?_) (Ev.ofEq (f := fun t k => if t = 0 then none else ((spec_l01IsFrac.f k (wrap64 (Int.tdiv a t)) (wrap64 (Int.tdiv b t))).bind fun t117 => (if t117 = true then (some (wrap64 (Int.tdiv a t), wrap64 (Int.tdiv b t), true)) else (some (0, 0, false))))) hg ?_)
  · unfold spec_l01Frac.f
    rw [if_neg (by omega)]
    congr 1
    funext t
    rw [if_neg (by omega)]
  · refine Ev.congr (fun k => ?_) (Ev.ofEq (f := fun t _ => (if t = true then (some ((redF a b).1, (redF a b).2, true)) else (some (0, 0, false)))) (spec_isFrac_f (redF a b).1 (redF a b).2) ?_)
    · rw [if_neg h0, wrap_of _ (by omega) (by omega), wrap_of _ (by omega) (by omega)]
      rfl
    · refine ⟨0, fun _ _ => ?_⟩
      dsimp only
      split <;> rfl
theorem impl_red_f (a b : Int) (ha : a.natAbs ≤ 9000000000000000000) (hb : 1 ≤ b) (hb2 : b.natAbs ≤ 9000000000000000000) :
    Ev (fun k => impl_reduced.f k a b) ((redF a b).1, (redF a b).2, fitF (redF a b).1 (redF a b).2) := by
  have hg := impl_common_f a b ha hb2
  have h0 := gcd_ne (a := a) hb
  have w1 := tdiv_bound a (Int.gcd a b) ha
  have w2 := tdiv_bound b (Int.gcd a b) hb2
  refine Ev.congr (fun k => ?_) (Ev.ofEq (f := fun t k => if t = 0 then none else ((impl_IsFraction.f k (wrap64 (Int.tdiv a t)) (wrap64 (Int.tdiv b t))).bind fun t216 => (some (wrap64 (Int.tdiv a t), wrap64 (Int.tdiv b t), t216)))) hg ?_)
  · unfold impl_reduced.f
    congr 1
    funext t
    rw [if_neg (by omega)]
  · refine Ev.congr (fun k => ?_) (Ev.ofEq (f := fun t _ => some ((redF a b).1, (redF a b).2, t)) (impl_isFraction_f (redF a b).1 (redF a b).2) (Ev.some _))
    rw [if_neg h0, wrap_of _ (by omega) (by omega), wrap_of _ (by omega) (by omega)]
    rfl
end Go.Proofs.Ytcklefgkbddlhaa.Pure
/- Plain lemmas: products and sums of fractions in lowest terms, and multiples by whole numbers. -/
namespace Go.Proofs.Ytcklefgkbddlhaa.Pure
open Go.RowKit Go.Proofs.Ytcklefgkbddlhaa.P Go.Proofs.YtcklefgkbddlhaaW.PrintWords Go.Proofs.YtcklefgkbddlhaaW.PrintLast
set_option linter.unusedVariables false
set_option linter.unusedSimpArgs false

def okF2 (x : S27) : Prop := fitF x.f0 x.f1 = true
def timesF (x y : S27) : S27 := ⟨(redF (x.f0 * y.f0) (x.f1 * y.f1)).1, (redF (x.f0 * y.f0) (x.f1 * y.f1)).2⟩
def plusF (x y : S27) : S27 := ⟨(redF (x.f0 * y.f1 + y.f0 * x.f1) (x.f1 * y.f1)).1, (redF (x.f0 * y.f1 + y.f0 * x.f1) (x.f1 * y.f1)).2⟩
theorem mul_b {a b : Int} (h1 : -1000000000 ≤ a) (h2 : a ≤ 1000000000) (h3 : -1000000000 ≤ b) (h4 : b ≤ 1000000000) : (a * b).natAbs ≤ 1000000000000000000 := by
  rw [Int.natAbs_mul]
  exact Nat.le_trans (Nat.mul_le_mul (show a.natAbs ≤ 1000000000 by omega) (show b.natAbs ≤ 1000000000 by omega)) (by decide)
theorem num_t (x y : S27) (hx : okF2 x) (hy : okF2 y) : (x.f0 * y.f0).natAbs ≤ 1000000000000000000 ∧ 1 ≤ x.f1 * y.f1 ∧ (x.f1 * y.f1).natAbs ≤ 1000000000000000000 ∧ (x.f0 * y.f1).natAbs ≤ 1000000000000000000 ∧ (y.f0 * x.f1).natAbs ≤ 1000000000000000000 := by
  have h1 := fitF_bounds hx
  have h2 := fitF_bounds hy
  refine ⟨mul_b (by omega) (by omega) (by omega) (by omega), ?_, mul_b (by omega) (by omega) (by omega) (by omega), mul_b (by omega) (by omega) (by omega) (by omega), mul_b (by omega) (by omega) (by omega) (by omega)⟩
  have := Int.mul_le_mul h1.1 h2.1 (by omega) (by omega)
  omega
theorem spec_times_f (x y : S27) (hx : okF2 x) (hy : okF2 y) : Ev (fun k => spec_l01TimesFrac.f k x.f0 x.f1 y.f0 y.f1) (if fitF (timesF x y).f0 (timesF x y).f1 = true then ((timesF x y).f0, (timesF x y).f1, true) else (0, 0, false)) := by
  obtain ⟨h1, h2, h3, _, _⟩ := num_t x y hx hy
  unfold spec_l01TimesFrac.f
  rw [wrap_of _ (by omega) (by omega), wrap_of _ (by omega) (by omega)]
  refine Ev.bind (f := fun _ bt => some (bt.1, bt.2.1, bt.2.2)) (spec_frac_f (x.f0 * y.f0) (x.f1 * y.f1) (by omega) h2 (by omega)) ?_
  exact Ev.now _
theorem spec_plus_f (x y : S27) (hx : okF2 x) (hy : okF2 y) : Ev (fun k => spec_l01Plus.f k x.f0 x.f1 y.f0 y.f1) (if fitF (plusF x y).f0 (plusF x y).f1 = true then ((plusF x y).f0, (plusF x y).f1, true) else (0, 0, false)) := by
  obtain ⟨_, h2, h3, h4, h5⟩ := num_t x y hx hy
  unfold spec_l01Plus.f
  rw [wrap_of (x.f0 * y.f1) (by omega) (by omega), wrap_of (y.f0 * x.f1) (by omega) (by omega), wrap_of (x.f0 * y.f1 + y.f0 * x.f1) (by omega) (by omega), wrap_of (x.f1 * y.f1) (by omega) (by omega)]
  refine Ev.bind (f := fun _ bt => some (bt.1, bt.2.1, bt.2.2)) (spec_frac_f (x.f0 * y.f1 + y.f0 * x.f1) (x.f1 * y.f1) (by omega) h2 (by omega)) ?_
  exact Ev.now _
theorem impl_plus_f (x y : S27) (hx : okF2 x) (hy : okF2 y) : Ev (fun k => impl_Fraction_plus.f k x.f0 x.f1 y.f0 y.f1) ((plusF x y).f0, (plusF x y).f1, fitF (plusF x y).f0 (plusF x y).f1) := by
  obtain ⟨_, h2, h3, h4, h5⟩ := num_t x y hx hy
  unfold impl_Fraction_plus.f
  rw [wrap_of (x.f0 * y.f1) (by omega) (by omega), wrap_of (y.f0 * x.f1) (by omega) (by omega), wrap_of (x.f0 * y.f1 + y.f0 * x.f1) (by omega) (by omega), wrap_of (x.f1 * y.f1) (by omega) (by omega)]
  refine Ev.bind (f := fun _ bt => some (bt.1, bt.2.1, bt.2.2)) (impl_red_f (x.f0 * y.f1 + y.f0 * x.f1) (x.f1 * y.f1) (by omega) h2 (by omega)) ?_
  exact Ev.now _
theorem spec_plus_0 (a b : Int) : Ev (fun k => spec_l01Plus.f k a b 0 0) (0, 0, false) := by
  unfold spec_l01Plus.f
  rw [Int.mul_zero b, wrap_of 0 (by omega) (by omega)]
  have h : Ev (fun k => spec_l01Frac.f k (wrap64 (wrap64 (a * 0) + wrap64 (0 * b))) 0) ((0 : Int), (0 : Int), false) := by
    exact ⟨0, fun k _ => by dsimp only; unfold spec_l01Frac.f; exact if_pos rfl⟩
  refine Ev.bind (f := fun _ bt => some (bt.1, bt.2.1, bt.2.2)) h ?_
  exact Ev.now _
theorem ok01 : okF2 (⟨0, 1⟩ : S27) := by unfold okF2; decide
theorem redF_scale (g a b : Int) (hg : 0 < g) : redF (g * a) (g * b) = redF a b := by
  unfold redF
  have h1 : Int.gcd (g * a) (g * b) = g.natAbs * Int.gcd a b := Int.gcd_mul_left g a b
  have h2 : ((g.natAbs * Int.gcd a b : Nat) : Int) = g * (Int.gcd a b : Int) := by
    rw [Int.natCast_mul, show ((g.natAbs : Nat) : Int) = g by omega]
  rw [h1, h2, Int.mul_tdiv_mul_of_pos _ _ hg, Int.mul_tdiv_mul_of_pos _ _ hg]
theorem redF_zero (b : Int) (hb : 1 ≤ b) : redF 0 b = (0, 1) := by
  unfold redF
  have h : ((Int.gcd 0 b : Nat) : Int) = b := by rw [Int.gcd_zero_left]; omega
  rw [h, Int.zero_tdiv, Int.tdiv_self (by omega)]
theorem timesF_zero (x : S27) (n : Int) (hx : okF2 x) (h : n = 0 ∨ x.f0 = 0) : timesF x ⟨n, 1⟩ = ⟨0, 1⟩ := by
  have hb := fitF_bounds hx
  unfold timesF
  dsimp only
  have e : x.f0 * n = 0 := by rcases h with h | h <;> rw [h] <;> simp
  rw [e, Int.mul_one, redF_zero _ hb.1]
theorem whole_f (x : S27) (n : Int) (hx : okF2 x) (hn : n.natAbs ≤ 1000000000) : Ev (fun k => impl_Fraction_timesWhole.f k x.f0 x.f1 n) ((timesF x ⟨n, 1⟩).f0, (timesF x ⟨n, 1⟩).f1, fitF (timesF x ⟨n, 1⟩).f0 (timesF x ⟨n, 1⟩).f1) := by
  have hb := fitF_bounds hx
  by_cases h : n = 0 ∨ x.f0 = 0
  · rw [timesF_zero x n hx h]
    refine Ev.step (f := fun _ => some ((0 : Int), (1 : Int), true)) (fun k => ?_) (Ev.now _)
    unfold impl_Fraction_timesWhole.f
    by_cases h0 : n = 0
    · rw [if_pos h0]
      rfl
    · rw [if_neg h0, show (x.f0 == 0) = true by simpa using h.resolve_left h0]
      rfl
  · have hn0 : n ≠ 0 := fun e => h (.inl e)
    have hx0 : x.f0 ≠ 0 := fun e => h (.inr e)
    obtain ⟨g, hg⟩ : ∃ g : Int, ((Int.gcd n x.f1 : Nat) : Int) = g := ⟨_, rfl⟩
    have hg1 : 1 ≤ g := by
      have : Int.gcd n x.f1 ≠ 0 := fun e => hn0 (Int.gcd_eq_zero_iff.1 e).1
      omega
    obtain ⟨p, hp⟩ : g ∣ n := hg ▸ Int.gcd_dvd_left n x.f1
    obtain ⟨q, hq⟩ : g ∣ x.f1 := hg ▸ Int.gcd_dvd_right n x.f1
    have hdp : Int.tdiv n g = p := by rw [hp, Int.mul_tdiv_cancel_left _ (by omega)]
    have hdq : Int.tdiv x.f1 g = q := by rw [hq, Int.mul_tdiv_cancel_left _ (by omega)]
    have hpn : p.natAbs ≤ 1000000000 := by
      have : (Int.tdiv n g).natAbs ≤ n.natAbs := by rw [Int.natAbs_tdiv]; exact Nat.div_le_self _ _
      rw [hdp] at this
      omega
    have hq1 : 1 ≤ q := by
      by_cases h1 : 1 ≤ q
      · exact h1
      · have := Int.mul_le_mul_of_nonneg_left (show q ≤ 0 by omega) (show 0 ≤ g by omega)
        omega
    have hqb : q.natAbs ≤ 1000000000 := by
      have : (Int.tdiv x.f1 g).natAbs ≤ x.f1.natAbs := by rw [Int.natAbs_tdiv]; exact Nat.div_le_self _ _
      rw [hdq] at this
      omega
    have hb2 := mul_b hb.2.2.1 hb.2.2.2 (show -1000000000 ≤ p by omega) (show p ≤ 1000000000 by omega)
    have e : redF (x.f0 * n) (x.f1 * 1) = redF (x.f0 * p) q := by
      rw [Int.mul_one, ← redF_scale g (x.f0 * p) q (by omega), ← hq, show g * (x.f0 * p) = x.f0 * n by rw [hp, Int.mul_left_comm]]
    unfold timesF
    dsimp only
    rw [e]
    have hc := impl_common_f n x.f1 (by omega) (by omega)
    rw [hg] at hc
    refine Ev.step (f := fun k => (impl_common.f k n x.f1).bind fun t370 => (if t370 = 0 then (none) else ((impl_upTo.f (wrap64 (Int.tdiv n t370)) 1000000000).bind fun t371 => (if t371 = true then ((impl_reduced.f k (wrap64 (x.f0 * (wrap64 (Int.tdiv n t370)))) (wrap64 (Int.tdiv x.f1 t370))).bind fun bt372 => (some (bt372.1, bt372.2.1, bt372.2.2))) else ((impl_zero.f).bind fun bt375 => (some (bt375.1, bt375.2, false))))))) (fun k => ?_) ?_
    · unfold impl_Fraction_timesWhole.f
      rw [if_neg hn0, show (x.f0 == 0) = false by simpa using hx0]
      rfl
    · refine Ev.bind (f := fun k t370 => (if t370 = 0 then (none) else ((impl_upTo.f (wrap64 (Int.tdiv n t370)) 1000000000).bind fun t371 => (if t371 = true then ((impl_reduced.f k (wrap64 (x.f0 * (wrap64 (Int.tdiv n t370)))) (wrap64 (Int.tdiv x.f1 t370))).bind fun bt372 => (some (bt372.1, bt372.2.1, bt372.2.2))) else ((impl_zero.f).bind fun bt375 => (some (bt375.1, bt375.2, false))))))) hc ?_
      have hr := impl_red_f (x.f0 * p) q (by omega) hq1 (by omega)
      refine Ev.congr (fun k => ?_) (Ev.bind (f := fun _ bt => some (bt.1, bt.2.1, bt.2.2)) hr (Ev.now _))
      rw [if_neg (by omega), hdp, hdq, wrap_of p (by omega) (by omega), wrap_of q (by omega) (by omega), impl_upTo_f _ _ (by omega) (by omega), Option.bind_some, if_pos (by simp only [Bool.and_eq_true, decide_eq_true_eq]; omega), wrap_of (x.f0 * p) (by omega) (by omega)]
end Go.Proofs.Ytcklefgkbddlhaa.Pure
/- Plain lemmas: products of matrices, of which the left one may have large entries, in both programs. -/
namespace Go.Proofs.Ytcklefgkbddlhaa.Pure
open Go.RowKit Go.Proofs.Ytcklefgkbddlhaa.P Go.Proofs.YtcklefgkbddlhaaW.PrintWords Go.Proofs.YtcklefgkbddlhaaW.PrintLast
set_option linter.unusedVariables false
set_option linter.unusedSimpArgs false

/-- A list by its places. -/
def tab {α : Type} (n : Nat) (g : Nat → α) : List α := (List.range n).map g
theorem tab_length {α : Type} (n : Nat) (g : Nat → α) : (tab n g).length = n := by simp [tab]
theorem tab_get {α : Type} (n : Nat) (g : Nat → α) (i : Nat) (h : i < (tab n g).length) : (tab n g)[i] = g i := by simp [tab]
theorem tab_congr {α : Type} {n : Nat} {g g' : Nat → α} (h : ∀ i, i < n → g i = g' i) : tab n g = tab n g' := by
  unfold tab
  exact List.map_congr_left (fun i hi => h i (List.mem_range.1 hi))
theorem tab_set {α : Type} (n : Nat) (g : Nat → α) (i : Nat) (v : α) : (tab n g).set i v = tab n (fun j => if j = i then v else g j) := by
  apply List.ext_getElem
  · simp [tab]
  · intro j h1 h2
    simp only [tab, List.getElem_set, List.getElem_map, List.getElem_range]
    by_cases e : i = j
    · simp [e]
    · simp [e, Ne.symm e]
theorem tab_succ {α : Type} (n : Nat) (g : Nat → α) : tab (n + 1) g = tab n g ++ [g n] := by simp [tab, List.range_succ]
theorem tab_rep {α : Type} (n : Nat) (v : α) : List.replicate n v = tab n (fun _ => v) := by
  apply List.ext_getElem
  · simp [tab]
  · intro j h1 h2; simp [tab]
theorem rd_tab (n : Nat) (g : Nat → Int) (i : Nat) (h : i < n) : rd (tab n g) (i : Int) = g i := by
  rw [rd_nat _ i (by rw [tab_length]; exact h)]; exact tab_get n g i _
theorem rdR_tab (n : Nat) (g : Nat → List Int) (i : Nat) (h : i < n) : rd_L6 (tab n g) (i : Int) = g i := by
  rw [rdR_nat _ i (by rw [tab_length]; exact h)]; exact tab_get n g i _
theorem all_tab {α : Type} (n : Nat) (g : Nat → α) (p : α → Bool) : (tab n g).all p = (List.range n).all (fun i => p (g i)) := by
  unfold tab; rw [List.all_map]; rfl
/-- A square matrix by its entries. -/
def mat (n : Nat) (f : Nat → Nat → Int) : List (List Int) := tab n fun i => tab n (f i)
def ent (m : List (List Int)) (i j : Nat) : Int := (m.getD i []).getD j 0
theorem sq_mat {n : Nat} {m : List (List Int)} (h : isSq n m = true) : m = mat n (ent m) ∧ ∀ i j, i < n → j < n → -1000 ≤ ent m i j ∧ ent m i j ≤ 1000 := by
  unfold isSq at h
  simp only [Bool.and_eq_true, decide_eq_true_eq, List.all_eq_true, okEntry] at h
  obtain ⟨hl, hr⟩ := h
  have hm : ∀ i (hi : i < m.length), m[i] = tab n (ent m i) := by
    intro i hi
    obtain ⟨h1, h2⟩ := hr m[i] (List.getElem_mem hi)
    apply List.ext_getElem
    · rw [tab_length]; exact h1
    · intro j h3 h4
      rw [tab_get]
      simp [ent, List.getD_eq_getElem?_getD, hi, h3]
  refine ⟨?_, fun i j hi hj => ?_⟩
  · apply List.ext_getElem
    · unfold mat; rw [tab_length]; exact hl
    · intro i h1 h2
      rw [show (mat n (ent m))[i] = tab n (ent m i) from tab_get n _ i h2]; exact hm i h1
  · obtain ⟨h1, h2⟩ := hr (m[i]'(by omega)) (List.getElem_mem (by omega))
    have hj' : j < (m[i]'(by omega)).length := by omega
    have := h2 ((m[i]'(by omega))[j]) (List.getElem_mem hj')
    have e : ent m i j = (m[i]'(by omega))[j] := by simp [ent, List.getD_eq_getElem?_getD, show i < m.length by omega, hj']
    rw [e]; exact this
/-- The sum of the first t products. -/
def ps (a b : Nat → Nat → Int) (i j : Nat) : Nat → Int
  | 0 => 0
  | t + 1 => ps a b i j t + a i t * b t j
def small (n : Nat) (a : Nat → Nat → Int) : Prop := ∀ i j, i < n → j < n → -1000 ≤ a i j ∧ a i j ≤ 1000
theorem mul_small {x y : Int} (hx : -1000 ≤ x ∧ x ≤ 1000) (hy : -1000 ≤ y ∧ y ≤ 1000) : -1000000 ≤ x * y ∧ x * y ≤ 1000000 := by
  have h1 := Int.mul_nonneg (show 0 ≤ 1000 - x by omega) (show 0 ≤ 1000 - y by omega)
  have h2 := Int.mul_nonneg (show 0 ≤ 1000 + x by omega) (show 0 ≤ 1000 + y by omega)
  have h3 := Int.mul_nonneg (show 0 ≤ 1000 - x by omega) (show 0 ≤ 1000 + y by omega)
  have h4 := Int.mul_nonneg (show 0 ≤ 1000 + x by omega) (show 0 ≤ 1000 - y by omega)
  simp only [Int.sub_mul, Int.add_mul, Int.mul_sub, Int.mul_add] at h1 h2 h3 h4
  generalize x * y = z at *
  omega
/-- Entries as they may be on the way. -/
def big (n : Nat) (a : Nat → Nat → Int) : Prop := ∀ i j, i < n → j < n → -1000000000 ≤ a i j ∧ a i j ≤ 1000000000
theorem mul_big {x y : Int} (hx : -1000000000 ≤ x ∧ x ≤ 1000000000) (hy : -1000 ≤ y ∧ y ≤ 1000) : -1000000000000 ≤ x * y ∧ x * y ≤ 1000000000000 := by
  have h1 := Int.mul_nonneg (show 0 ≤ 1000000000 - x by omega) (show 0 ≤ 1000 - y by omega)
  have h2 := Int.mul_nonneg (show 0 ≤ 1000000000 + x by omega) (show 0 ≤ 1000 + y by omega)
  have h3 := Int.mul_nonneg (show 0 ≤ 1000000000 - x by omega) (show 0 ≤ 1000 + y by omega)
  have h4 := Int.mul_nonneg (show 0 ≤ 1000000000 + x by omega) (show 0 ≤ 1000 - y by omega)
  simp only [Int.sub_mul, Int.add_mul, Int.mul_sub, Int.mul_add] at h1 h2 h3 h4
  generalize x * y = z at *
  omega
theorem ps_big {n : Nat} {a b : Nat → Nat → Int} (ha : big n a) (hb : small n b) (i j : Nat) (hi : i < n) (hj : j < n) : ∀ t, t ≤ n → -(1000000000000 * (t : Int)) ≤ ps a b i j t ∧ ps a b i j t ≤ 1000000000000 * (t : Int) := by
  intro t
  induction t with
  | zero => intro _; simp [ps]
  | succ t ih =>
    intro ht
    have := ih (by omega)
    have hm := mul_big (ha i t hi (by omega)) (hb t j (by omega) hj)
    simp only [ps]
    omega
theorem multiplied_l0 (n : Nat) (hn : n ≤ 6) (c : Int) : ∀ d k i (h : Nat → Int), i + d = n → d < k → impl_multiplied.l0 k c (tab n h) (n : Int) (i : Int) = some (tab n fun j => if i ≤ j then wrap64 (h j * c) else h j) := by
  intro d
  induction d with
  | zero =>
    intro k i h hi hk
    obtain ⟨k, rfl⟩ : ∃ m, k = m + 1 := ⟨k - 1, by omega⟩
    rw [impl_multiplied.l0, if_neg (by omega)]
    exact congrArg some (tab_congr fun j hj => by rw [if_neg (by omega)])
  | succ d ih =>
    intro k i h hi hk
    obtain ⟨k, rfl⟩ : ∃ m, k = m + 1 := ⟨k - 1, by omega⟩
    rw [impl_multiplied.l0, if_pos (by omega), if_pos (by omega), if_pos (by rw [tab_length]; omega), rd_tab n h i (by omega), wrap_nat _ (by omega), Int.toNat_natCast, tab_set, ih k (i + 1) _ (by omega) (by omega)]
    refine congrArg some (tab_congr fun j hj => ?_)
    by_cases e : j = i
    · subst e; rw [if_neg (by omega), if_pos rfl, if_pos (by omega)]
    · by_cases e2 : i ≤ j
      · rw [if_pos (by omega), if_neg e, if_pos e2]
      · rw [if_neg (by omega), if_neg e, if_neg e2]
theorem multiplied_f (k n : Nat) (hn : n ≤ 6) (hk : 7 ≤ k) (c : Int) (h : Nat → Int) : impl_multiplied.f k (tab n h) c = some (tab n fun j => wrap64 (h j * c)) := by
  unfold impl_multiplied.f slices_Clone_int64_int64.f
  rw [if_pos (by rw [tab_length]; omega), Option.bind_some, tab_length, show impl_multiplied.l0 k c (tab n h) (n : Int) 0 = _ from multiplied_l0 n hn c n k 0 h (by omega) (by omega)]
  simp
theorem added_l0 (n : Nat) (hn : n ≤ 6) (s : Nat → Int) : ∀ d k i (h : Nat → Int), i + d = n → d < k → impl_added.l0 k (tab n h) (tab n s) (n : Int) (i : Int) = some (tab n fun j => if i ≤ j then wrap64 (h j + s j) else h j) := by
  intro d
  induction d with
  | zero =>
    intro k i h hi hk
    obtain ⟨k, rfl⟩ : ∃ m, k = m + 1 := ⟨k - 1, by omega⟩
    rw [impl_added.l0, if_neg (by omega)]
    exact congrArg some (tab_congr fun j hj => by rw [if_neg (by omega)])
  | succ d ih =>
    intro k i h hi hk
    obtain ⟨k, rfl⟩ : ∃ m, k = m + 1 := ⟨k - 1, by omega⟩
    rw [impl_added.l0, if_pos (by omega), if_pos (by omega), if_pos (by rw [tab_length]; omega), if_pos (by rw [tab_length]; omega), rd_tab n h i (by omega), rd_tab n s i (by omega), wrap_nat _ (by omega), Int.toNat_natCast, tab_set, ih k (i + 1) _ (by omega) (by omega)]
    refine congrArg some (tab_congr fun j hj => ?_)
    by_cases e : j = i
    · subst e; rw [if_neg (by omega), if_pos rfl, if_pos (by omega)]
    · by_cases e2 : i ≤ j
      · rw [if_pos (by omega), if_neg e, if_pos e2]
      · rw [if_neg (by omega), if_neg e, if_neg e2]
theorem added_f (k n : Nat) (hn : n ≤ 6) (hk : 7 ≤ k) (h s : Nat → Int) : impl_added.f k (tab n h) (tab n s) = some (tab n fun j => wrap64 (h j + s j)) := by
  unfold impl_added.f slices_Clone_int64_int64.f
  rw [if_pos (by rw [tab_length]; omega), Option.bind_some, tab_length, show impl_added.l0 k (tab n h) (tab n s) (n : Int) 0 = _ from added_l0 n hn s n k 0 h (by omega) (by omega)]
  simp
theorem square_l0 (n : Nat) (hn : n ≤ 6) : ∀ d k i (G : Nat → List Int), i + d = n → d < k → impl_square.l0 k (n : Int) (tab n G) (n : Int) (i : Int) = some (tab n fun q => if i ≤ q then tab n (fun _ => 0) else G q) := by
  intro d
  induction d with
  | zero =>
    intro k i G hi hk
    obtain ⟨k, rfl⟩ : ∃ m, k = m + 1 := ⟨k - 1, by omega⟩
    rw [impl_square.l0, if_neg (by omega)]
    exact congrArg some (tab_congr fun j hj => by rw [if_neg (by omega)])
  | succ d ih =>
    intro k i G hi hk
    obtain ⟨k, rfl⟩ : ∃ m, k = m + 1 := ⟨k - 1, by omega⟩
    rw [impl_square.l0, if_pos (by omega), if_pos (by omega), if_pos (by omega), if_pos (by omega), if_pos (by rw [tab_length]; omega), wrap_nat _ (by omega), Int.toNat_natCast, Int.toNat_natCast, tab_set, ih k (i + 1) _ (by omega) (by omega)]
    refine congrArg some (tab_congr fun j hj => ?_)
    by_cases e : j = i
    · subst e; simp [tab_rep]
    · by_cases e2 : i ≤ j
      · rw [if_pos (by omega), if_pos e2]
      · rw [if_neg (by omega), if_neg e, if_neg e2]
theorem square_f (k n : Nat) (hn : n ≤ 6) (hk : 7 ≤ k) : impl_square.f k (n : Int) = some (mat n fun _ _ => 0) := by
  unfold impl_square.f
  rw [if_pos (by omega), if_pos (by omega), Option.bind_some, Int.toNat_natCast, List.length_replicate, tab_rep, show impl_square.l0 k (n : Int) (tab n fun _ => []) (n : Int) 0 = _ from square_l0 n hn n k 0 _ (by omega) (by omega)]
  simp [mat]
theorem timesB_l1 (n : Nat) (hn : n ≤ 6) (a b : Nat → Nat → Int) (ha : big n a) (hb : small n b) (i : Nat) (hi : i < n) : ∀ e k t (G : Nat → List Int), t + e = n → 7 ≤ k → G i = tab n (fun j => ps a b i j t) →
    impl_timesMatrix.l1 (k + e + 1) (mat n b) (tab n G) (i : Int) (mat n a) (n : Int) (i : Int) (tab n (a i)) (n : Int) (t : Int) = impl_timesMatrix.l0 k (mat n b) (tab n fun q => if q = i then tab n (fun j => ps a b i j n) else G q) (mat n a) (n : Int) (wrap64 ((i : Int) + 1)) := by
  intro e
  induction e with
  | zero =>
    intro k t G h hk hG
    obtain rfl : t = n := by omega
    rw [show k + 0 + 1 = k + 1 from rfl, impl_timesMatrix.l1, if_neg (by omega)]
    congr 1
    refine tab_congr fun q hq => ?_
    by_cases e : q = i
    · rw [if_pos e, e, hG]
    · rw [if_neg e]
  | succ e ih =>
    intro k t G h hk hG
    rw [show k + (e + 1) + 1 = (k + e + 1) + 1 from by omega, impl_timesMatrix.l1, if_pos (by omega), if_pos (by omega), if_pos (by rw [tab_length]; omega), if_pos (by omega), if_pos (by rw [tab_length]; omega), if_pos (by unfold mat; rw [tab_length]; omega), rd_tab n (a i) t (by omega), show rd_L6 (mat n b) (t : Int) = tab n (b t) from rdR_tab n _ t (by omega), multiplied_f _ n hn (by omega), Option.bind_some, rdR_tab n G i hi, hG, added_f _ n hn (by omega), Option.bind_some, wrap_nat _ (by omega), Int.toNat_natCast, tab_set]
    rw [ih k (t + 1) _ (by omega) hk ?_]
    · congr 1
      refine tab_congr fun q hq => ?_
      by_cases e : q = i
      · rw [if_pos e, if_pos e]
      · rw [if_neg e, if_neg e, if_neg e]
    · rw [if_pos rfl]
      refine tab_congr fun j hj => ?_
      have hp := ps_big ha hb i j hi hj t (by omega)
      have hm := mul_big (ha i t hi (by omega)) (hb t j (by omega) hj)
      rw [Int.mul_comm (b t j), wrap_of (a i t * b t j) (by omega) (by omega), wrap_of _ (by omega) (by omega)]
      rfl
theorem timesB_l0 (n : Nat) (hn : n ≤ 6) (a b : Nat → Nat → Int) (ha : big n a) (hb : small n b) : ∀ d k i, i + d = n → d * 20 + 20 ≤ k →
    impl_timesMatrix.l0 k (mat n b) (tab n fun q => if q < i then tab n (fun j => ps a b q j n) else tab n (fun _ => 0)) (mat n a) (n : Int) (i : Int) = some (mat n fun i j => ps a b i j n) := by
  intro d
  induction d with
  | zero =>
    intro k i h hk
    obtain ⟨k, rfl⟩ : ∃ m, k = m + 1 := ⟨k - 1, by omega⟩
    rw [impl_timesMatrix.l0, if_neg (by omega)]
    exact congrArg some (tab_congr fun q hq => by rw [if_pos (by omega)])
  | succ d ih =>
    intro k i h hk
    obtain ⟨k, rfl⟩ : ∃ m, k = (m + n + 1) + 1 := ⟨k - n - 2, by omega⟩
    rw [impl_timesMatrix.l0, if_pos (by omega), if_pos (by omega), if_pos (by unfold mat; rw [tab_length]; omega), show rd_L6 (mat n a) (i : Int) = tab n (a i) from rdR_tab n _ i (by omega), tab_length]
    have := timesB_l1 n hn a b ha hb i (by omega) n k 0 (fun q => if q < i then tab n (fun j => ps a b q j n) else tab n (fun _ => 0)) (by omega) (by omega) (by rw [if_neg (by omega)]; rfl)
    rw [show impl_timesMatrix.l1 (k + n + 1) (mat n b) (tab n fun q => if q < i then tab n (fun j => ps a b q j n) else tab n (fun _ => 0)) (i : Int) (mat n a) (n : Int) (i : Int) (tab n (a i)) (n : Int) 0 = _ from this, wrap_nat _ (by omega), ← ih k (i + 1) (by omega) (by omega)]
    congr 1
    refine tab_congr fun q hq => ?_
    by_cases e : q = i
    · rw [if_pos e, if_pos (by omega), e]
    · by_cases e2 : q < i
      · rw [if_neg e, if_pos e2, if_pos (by omega)]
      · rw [if_neg e, if_neg e2, if_neg (by omega)]
theorem timesB_f (k n : Nat) (hn : n ≤ 6) (hk : 200 ≤ k) (a b : Nat → Nat → Int) (ha : big n a) (hb : small n b) : impl_timesMatrix.f k (mat n a) (mat n b) = some (mat n fun i j => ps a b i j n) := by
  unfold impl_timesMatrix.f
  rw [show (mat n a).length = n from tab_length _ _, square_f k n hn (by omega), Option.bind_some]
  have := timesB_l0 n hn a b ha hb n k 0 (by omega) (by omega)
  simpa [mat] using this
/-- Do two matrices give the same product either way? -/
def zeroM (n : Nat) (f : Nat → Nat → Int) : Bool := (List.range n).all fun i => (List.range n).all fun j => decide (f i j = 0)
def allF (p : Nat → Bool) : Nat → Nat → Bool
  | 0, _ => true
  | e + 1, i => p i && allF p e (i + 1)
theorem allF_iff (p : Nat → Bool) : ∀ e i, allF p e i = true ↔ ∀ q, i ≤ q → q < i + e → p q = true := by
  intro e
  induction e with
  | zero => intro i; simp only [allF, true_iff]; intro q h1 h2; omega
  | succ e ih =>
    intro i
    simp only [allF, Bool.and_eq_true, ih]
    refine ⟨fun h q h1 h2 => ?_, fun h => ⟨h i (Nat.le_refl _) (by omega), fun q h1 h2 => h q (by omega) (by omega)⟩⟩
    by_cases e1 : q = i
    · rw [e1]; exact h.1
    · exact h.2 q (by omega) (by omega)
theorem allF_range (p : Nat → Bool) (n : Nat) : allF p n 0 = (List.range n).all p := by
  rw [Bool.eq_iff_iff, allF_iff]
  simp only [List.all_eq_true, List.mem_range]
  exact ⟨fun h q hq => h q (Nat.zero_le _) (by omega), fun h q _ hq => h q (by omega)⟩
/-- Is a number small enough to go on with? -/
def okV (x : Int) : Bool := decide (-1000000000 ≤ x) && decide (x ≤ 1000000000)
def okM (n : Nat) (f : Nat → Nat → Int) : Bool := allF (fun p => allF (fun q => okV (f p q)) n 0) n 0
theorem mat_length (n : Nat) (f : Nat → Nat → Int) : (mat n f).length = n := tab_length _ _
theorem rdR_mat (n : Nat) (f : Nat → Nat → Int) (i : Nat) (h : i < n) : rd_L6 (mat n f) (i : Int) = tab n (f i) := rdR_tab n _ i h
theorem stimesB_l2 (n : Nat) (hn : n ≤ 6) (a b : Nat → Nat → Int) (ha : big n a) (hb : small n b) (x6 : List (List Int)) (i j : Nat) (hi : i < n) (hj : j < n) : ∀ e k t (h : Nat → Int), t + e = n → h j = ps a b i j t →
    spec_l08Times.l2 (k + e + 1) (mat n a) (mat n b) x6 (i : Int) (tab n h) (j : Int) (t : Int) = if okV (ps a b i j n) = true then spec_l08Times.l1 k (mat n a) (mat n b) x6 (i : Int) (tab n fun q => if q = j then ps a b i j n else h q) (wrap64 ((j : Int) + 1)) else some (([] : List (List Int)), false) := by
  intro e
  induction e with
  | zero =>
    intro k t h ht hh
    obtain rfl : t = n := by omega
    have hp := ps_big ha hb i j hi hj t (Nat.le_refl _)
    rw [show k + 0 + 1 = k + 1 from rfl, spec_l08Times.l2, if_neg (by rw [mat_length]; omega), if_pos (by omega), if_pos (by rw [tab_length]; omega), rd_tab t h j hj, hh, spec_l01In_f, Option.bind_some, show (decide (-1000000000 ≤ ps a b i j t) && decide (ps a b i j t ≤ 1000000000)) = okV (ps a b i j t) from rfl]
    congr 2
    refine tab_congr fun q hq => ?_
    by_cases e : q = j
    · rw [if_pos e, e, hh]
    · rw [if_neg e]
  | succ e ih =>
    intro k t h ht hh
    rw [show k + (e + 1) + 1 = (k + e + 1) + 1 from by omega, spec_l08Times.l2, if_pos (by rw [mat_length]; omega), if_pos (by omega), if_pos (by rw [tab_length]; omega), if_pos (by omega), if_pos (by rw [mat_length]; omega), if_pos (by omega), rdR_mat n a i hi, if_pos (by rw [tab_length]; omega), rdR_mat n b t (by omega), if_pos (by rw [tab_length]; omega), rd_tab n h j hj, rd_tab n (a i) t (by omega), rd_tab n (b t) j hj, hh, wrap_nat _ (by omega), Int.toNat_natCast, tab_set]
    have hp := ps_big ha hb i j hi hj t (by omega)
    have hm := mul_big (ha i t hi (by omega)) (hb t j (by omega) hj)
    rw [wrap_of (a i t * b t j) (by omega) (by omega), wrap_of _ (by omega) (by omega), ih k (t + 1) _ (by omega) (by rw [if_pos rfl]; rfl)]
    congr 2
    refine tab_congr fun q hq => ?_
    by_cases e : q = j
    · rw [if_pos e, if_pos e]
    · rw [if_neg e, if_neg e, if_neg e]
theorem stimesB_l1 (n : Nat) (hn : n ≤ 6) (a b : Nat → Nat → Int) (ha : big n a) (hb : small n b) (x6 : List (List Int)) (h6 : x6.length ≤ 6) (i : Nat) (hi : i < n) : ∀ e k j, j + e = n →
    spec_l08Times.l1 (k + e * (n + 2) + 1) (mat n a) (mat n b) x6 (i : Int) (tab n fun q => if q < j then ps a b i q n else 0) (j : Int) = if allF (fun q => okV (ps a b i q n)) e j = true then spec_l08Times.l0 k (mat n a) (mat n b) (x6 ++ [tab n fun q => ps a b i q n]) (wrap64 ((i : Int) + 1)) else some (([] : List (List Int)), false) := by
  intro e
  induction e with
  | zero =>
    intro k j h
    rw [show k + 0 * (n + 2) + 1 = k + 1 from by omega, spec_l08Times.l1, if_neg (by rw [mat_length]; omega), if_pos (by omega), allF, if_pos rfl]
    congr 3
    refine tab_congr fun q hq => ?_
    rw [if_pos (by omega)]
  | succ e ih =>
    intro k j h
    rw [show k + (e + 1) * (n + 2) + 1 = ((k + e * (n + 2) + 1) + n + 1) + 1 from by rw [Nat.succ_mul]; omega, spec_l08Times.l1, if_pos (by rw [mat_length]; omega)]
    have := stimesB_l2 n hn a b ha hb x6 i j hi (by omega) n (k + e * (n + 2) + 1) 0 (fun q => if q < j then ps a b i q n else 0) (by omega) (by rw [if_neg (by omega)]; rfl)
    rw [show spec_l08Times.l2 ((k + e * (n + 2) + 1) + n + 1) (mat n a) (mat n b) x6 (i : Int) (tab n fun q => if q < j then ps a b i q n else 0) (j : Int) 0 = _ from this, wrap_nat _ (by omega), allF]
    by_cases hv : okV (ps a b i j n) = true
    case neg => rw [if_neg hv, if_neg (by simp [hv])]
    rw [if_pos hv, hv, Bool.true_and, ← ih k (j + 1) (by omega)]
    congr 1
    refine tab_congr fun q hq => ?_
    by_cases e1 : q = j
    · rw [if_pos e1, if_pos (by omega), e1]
    · by_cases e2 : q < j
      · rw [if_neg e1, if_pos e2, if_pos (by omega)]
      · rw [if_neg e1, if_neg e2, if_neg (by omega)]
theorem stimesB_l0 (n : Nat) (hn : n ≤ 6) (a b : Nat → Nat → Int) (ha : big n a) (hb : small n b) : ∀ d k i, i + d = n → d * 60 + 1 ≤ k →
    spec_l08Times.l0 k (mat n a) (mat n b) (tab i fun i => tab n fun q => ps a b i q n) (i : Int) = some (if allF (fun p => allF (fun q => okV (ps a b p q n)) n 0) d i = true then (mat n fun i j => ps a b i j n, true) else (([] : List (List Int)), false)) := by
  intro d
  induction d with
  | zero =>
    intro k i h hk
    obtain ⟨k, rfl⟩ : ∃ m, k = m + 1 := ⟨k - 1, by omega⟩
    obtain rfl : i = n := by omega
    rw [spec_l08Times.l0, if_neg (by rw [mat_length]; omega), allF, if_pos rfl]
    rfl
  | succ d ih =>
    intro k i h hk
    have hm : n * (n + 2) ≤ 6 * 8 := Nat.mul_le_mul hn (by omega)
    obtain ⟨k, rfl⟩ : ∃ m, k = (m + n * (n + 2) + 1) + 1 := ⟨k - n * (n + 2) - 2, by omega⟩
    rw [spec_l08Times.l0, if_pos (by rw [mat_length]; omega), if_pos (by omega), if_pos (by rw [mat_length]; omega), mat_length, Int.toNat_natCast, tab_rep]
    have := stimesB_l1 n hn a b ha hb (tab i fun i => tab n fun q => ps a b i q n) (by rw [tab_length]; omega) i (by omega) n k 0 (by omega)
    have e0 : (tab n fun q => if q < 0 then ps a b i q n else 0) = tab n fun _ => (0 : Int) := tab_congr fun q hq => by rw [if_neg (by omega)]
    rw [e0] at this
    rw [show spec_l08Times.l1 (k + n * (n + 2) + 1) (mat n a) (mat n b) (tab i fun i => tab n fun q => ps a b i q n) (i : Int) (tab n fun _ => 0) 0 = _ from this, wrap_nat _ (by omega), ← tab_succ, allF]
    by_cases hv : allF (fun q => okV (ps a b i q n)) n 0 = true
    · rw [if_pos hv, ih k (i + 1) (by omega) (by omega), hv, Bool.true_and]
    · rw [if_neg hv, if_neg (by simp [hv])]
theorem stimesB_f (k n : Nat) (hn : n ≤ 6) (hk : 400 ≤ k) (a b : Nat → Nat → Int) (ha : big n a) (hb : small n b) : spec_l08Times.f k (mat n a) (mat n b) = some (if okM n (fun i j => ps a b i j n) = true then (mat n fun i j => ps a b i j n, true) else (([] : List (List Int)), false)) :=
  stimesB_l0 n hn a b ha hb n k 0 (by omega) (by omega)
theorem zeroM_allF (n : Nat) (f : Nat → Nat → Int) : allF (fun i => allF (fun j => decide (f i j = 0)) n 0) n 0 = zeroM n f := by
  unfold zeroM
  rw [allF_range]
  congr 1
  funext i
  rw [allF_range]
/-- Tables of n rows each. -/
structure Tabs (n : Nat) (l : List (List (List Int))) (F : Nat → Nat → Nat → Int) : Prop where
  len : l.length ≤ 3
  dim : n ≤ 6
  at_ : ∀ q (h : q < l.length), l[q] = mat n (F q) ∧ small n (F q)
theorem areTabs_tabs {d : Int} {l : List (List (List Int))} (h : areTabs d l = true) : Tabs (dimOf l).toNat l (fun q => ent (l.getD q [])) := by
  unfold areTabs at h
  simp only [Bool.and_eq_true, decide_eq_true_eq, List.all_eq_true] at h
  refine ⟨by omega, by omega, fun q hq => ?_⟩
  have := sq_mat (h.2 l[q] (List.getElem_mem hq))
  rw [show l.getD q [] = l[q] from by simp [List.getD_eq_getElem?_getD, hq]]
  exact this

end Go.Proofs.Ytcklefgkbddlhaa.Pure
/- Plain lemmas: the product of a word's tables, in both programs. -/
namespace Go.Proofs.Ytcklefgkbddlhaa.Pure
open Go.RowKit Go.Proofs.Ytcklefgkbddlhaa.P Go.Proofs.YtcklefgkbddlhaaW.PrintWords Go.Proofs.YtcklefgkbddlhaaW.PrintLast
set_option linter.unusedVariables false
set_option linter.unusedSimpArgs false

def okW (d : Nat) (s : ByteArray) : Prop := ∀ i : Nat, i < s.size → 48 ≤ bt s i ∧ bt s i < 48 + (d : Int)
def eye (i j : Nat) : Int := if i = j then 1 else 0
theorem eye_big (n : Nat) : big n eye := fun i j _ _ => by unfold eye; split <;> omega
theorem sunit_l0 (n : Nat) (hn : n ≤ 6) : ∀ d k i, i + d = n → d < k →
    spec_l08Unit.l0 k (n : Int) (tab i fun p => tab n (eye p)) (i : Int) = some (mat n eye) := by
  intro d
  induction d with
  | zero =>
    intro k i h hk
    obtain ⟨k, rfl⟩ : ∃ m, k = m + 1 := ⟨k - 1, by omega⟩
    obtain rfl : i = n := by omega
    rw [spec_l08Unit.l0, if_neg (by omega)]
    rfl
  | succ d ih =>
    intro k i h hk
    obtain ⟨k, rfl⟩ : ∃ m, k = m + 1 := ⟨k - 1, by omega⟩
    have e : (tab n fun j => if j = i then (1 : Int) else 0) = tab n (eye i) := tab_congr fun q hq => by
      unfold eye
      by_cases e : q = i
      · rw [if_pos e, if_pos e.symm]
      · rw [if_neg e, if_neg (Ne.symm e)]
    rw [spec_l08Unit.l0, if_pos (by omega), if_pos (by omega), if_pos (by omega), Option.bind_some, Int.toNat_natCast, if_pos (by omega), if_pos (by rw [List.length_replicate]; omega), if_pos (by rw [tab_length]; omega), wrap_nat _ (by omega), tab_rep, Int.toNat_natCast, tab_set, e, ← tab_succ, ih k (i + 1) (by omega) (by omega)]
theorem sunit_f (k n : Nat) (hn : n ≤ 6) (hk : 7 ≤ k) : spec_l08Unit.f k (n : Int) = some (mat n eye) := sunit_l0 n hn n k 0 (by omega) (by omega)
theorem diag_mat (n : Nat) : ∀ i, i ≤ n → impl_product.diag i (mat n fun _ _ => 0) = mat n fun p q => if p < i then eye p q else 0 := by
  intro i
  induction i with
  | zero => intro _; rw [impl_product.diag]; unfold mat; refine tab_congr fun p hp => tab_congr fun q hq => ?_; dsimp only; rw [if_neg (by omega)]
  | succ i ih =>
    intro h
    have hg : (mat n fun p q => if p < i then eye p q else 0).getD i [] = tab n fun _ => 0 := by
      rw [List.getD_eq_getElem?_getD, List.getElem?_eq_getElem (by unfold mat; rw [tab_length]; omega), Option.getD_some]
      unfold mat
      rw [tab_get]
      refine tab_congr fun q hq => ?_
      dsimp only
      rw [if_neg (by omega)]
    rw [impl_product.diag, ih (by omega), hg, tab_set]
    unfold mat
    rw [tab_set]
    refine tab_congr fun p hp => ?_
    by_cases e : p = i
    · rw [if_pos e]
      refine tab_congr fun q hq => ?_
      dsimp only
      by_cases e2 : q = i
      · rw [if_pos e2, if_pos (show p < i + 1 by omega), e, e2]; unfold eye; rw [if_pos rfl]
      · rw [if_neg e2, if_pos (show p < i + 1 by omega), e]; unfold eye; rw [if_neg (Ne.symm e2)]
    · rw [if_neg e]
      refine tab_congr fun q hq => ?_
      dsimp only
      by_cases e2 : p < i
      · rw [if_pos e2, if_pos (by omega)]
      · rw [if_neg e2, if_neg (by omega)]
theorem over_mat (n : Nat) (f : Nat → Nat → Int) : impl_product.over (mat n f) = !(okM n f) := by
  have h : ∀ t : List (List Int), impl_product.over t = !(t.all fun x => x.all okV) := by
    intro t
    unfold impl_product.over
    have e : (fun x : List Int => !(!(x.any fun n => !(Hand.upToB n 1000000000)))) = fun x => !(x.all okV) := by
      funext x
      rw [not_any_not]
      congr 2
      funext q
      unfold Hand.upToB okV
      rw [wrap_of (-1000000000) (by omega) (by omega)]
    rw [e, ← not_any_not, Bool.not_not]
  rw [h]
  unfold mat okM
  rw [all_tab, allF_range]
  congr 2
  funext p
  rw [all_tab, allF_range]
/-- A word's letter, as a place among the tables. -/
def ltr (w : ByteArray) (i : Nat) : Nat := (((bt w i) - 48) % 256).toNat
def pm (n : Nat) (a b : Nat → Nat → Int) : Nat → Nat → Int := fun i j => ps a b i j n
/-- The product from letter i on. -/
def prodR (n : Nat) (F : Nat → Nat → Nat → Int) (w : ByteArray) : Nat → Nat → (Nat → Nat → Int) → List (List Int) × Bool
  | 0, _, f => (mat n f, true)
  | e + 1, i, f => if okM n (pm n f (F (ltr w i))) = true then prodR n F w e (i + 1) (pm n f (F (ltr w i))) else (([] : List (List Int)), false)
theorem okM_big {n : Nat} {f : Nat → Nat → Int} (h : okM n f = true) : big n f := by
  intro i j hi hj
  unfold okM at h
  rw [allF_iff] at h
  have := h i (Nat.zero_le _) (by omega)
  rw [allF_iff] at this
  have := this j (Nat.zero_le _) (by omega)
  unfold okV at this
  simp only [Bool.and_eq_true, decide_eq_true_eq] at this
  exact this
theorem prodR_form (n : Nat) (F : Nat → Nat → Nat → Int) (w : ByteArray) : ∀ e i f, (∃ g, prodR n F w e i f = (mat n g, true)) ∨ prodR n F w e i f = (([] : List (List Int)), false) := by
  intro e
  induction e with
  | zero => intro i f; exact .inl ⟨f, rfl⟩
  | succ e ih =>
    intro i f
    rw [prodR]
    split
    · exact ih _ _
    · exact .inr rfl
theorem ltr_lt {d : Nat} (hd : d ≤ 3) {w : ByteArray} (h : okW d w) (i : Nat) (hi : i < w.size) : ltr w i < d ∧ ((bt w i) - 48) % 256 = (ltr w i : Int) := by
  have := h i hi
  unfold ltr
  omega
theorem sprod_l0 {n : Nat} {l : List (List (List Int))} {F : Nat → Nat → Nat → Int} (T : Tabs n l F) (w : ByteArray) (hw : okW l.length w) (hs : w.size ≤ 1000000) : ∀ e k i f, i + e = w.size → big n f → 500 + e ≤ k →
    spec_l08Product.l0 k l w (mat n f) (i : Int) = some (prodR n F w e i f) := by
  intro e
  have hl := T.len
  induction e with
  | zero =>
    intro k i f h hf hk
    obtain ⟨k, rfl⟩ : ∃ m, k = m + 1 := ⟨k - 1, by omega⟩
    rw [spec_l08Product.l0, if_neg (by omega), prodR]
  | succ e ih =>
    intro k i f h hf hk
    obtain ⟨k, rfl⟩ : ∃ m, k = m + 1 := ⟨k - 1, by omega⟩
    obtain ⟨h1, h2⟩ := ltr_lt hl hw i (by omega)
    obtain ⟨t1, t2⟩ := T.at_ (ltr w i) h1
    rw [spec_l08Product.l0, if_pos (by omega), if_pos (by omega), h2, if_pos (by omega), if_pos (by omega), rdT_nat l _ h1, t1, stimesB_f k n T.dim (by omega) f _ hf t2, Option.bind_some, prodR]
    by_cases ho : okM n (pm n f (F (ltr w i))) = true
    · rw [if_pos ho, if_pos (show okM n (fun p j => ps f (F (ltr w i)) p j n) = true from ho), if_pos rfl, wrap_nat _ (by omega)]
      exact ih k (i + 1) _ (by omega) (okM_big ho) (by omega)
    · rw [if_neg ho, if_neg (show ¬ okM n (fun p j => ps f (F (ltr w i)) p j n) = true from ho), if_neg (by simp)]
theorem iprod_l0 {n : Nat} {l : List (List (List Int))} {F : Nat → Nat → Nat → Int} (T : Tabs n l F) (w : ByteArray) (hw : okW l.length w) (hs : w.size ≤ 1000000) : ∀ e k i f, i + e = w.size → big n f → 500 + e ≤ k →
    impl_product.l0 k l w (mat n f) (w.size : Int) (i : Int) = some (prodR n F w e i f) := by
  intro e
  have hl := T.len
  induction e with
  | zero =>
    intro k i f h hf hk
    obtain ⟨k, rfl⟩ : ∃ m, k = m + 1 := ⟨k - 1, by omega⟩
    rw [impl_product.l0, if_neg (by omega), prodR]
  | succ e ih =>
    intro k i f h hf hk
    obtain ⟨k, rfl⟩ : ∃ m, k = m + 1 := ⟨k - 1, by omega⟩
    obtain ⟨h1, h2⟩ := ltr_lt hl hw i (by omega)
    obtain ⟨t1, t2⟩ := T.at_ (ltr w i) h1
    rw [impl_product.l0, if_pos (by omega), if_pos (by omega), if_pos (by omega), h2, if_pos (by omega), if_pos (by omega), rdT_nat l _ h1, t1, timesB_f k n T.dim (by omega) f _ hf t2, Option.bind_some, over_mat, prodR]
    by_cases ho : okM n (pm n f (F (ltr w i))) = true
    · rw [if_pos ho, show okM n (fun p j => ps f (F (ltr w i)) p j n) = true from ho, if_neg (by simp), wrap_nat _ (by omega)]
      exact ih k (i + 1) _ (by omega) (okM_big ho) (by omega)
    · rw [if_neg ho, show okM n (fun p j => ps f (F (ltr w i)) p j n) = false from Bool.eq_false_iff.mpr ho, if_pos (by simp)]
theorem first_len {n : Nat} {l : List (List (List Int))} {F : Nat → Nat → Nat → Int} (T : Tabs n l F) (h0 : 0 < l.length) : rd_L7 l 0 = mat n (F 0) := by
  have := rdT_nat l 0 h0
  rw [show ((0 : Nat) : Int) = 0 from rfl] at this
  rw [this]
  exact (T.at_ 0 h0).1
theorem spec_product_f {n : Nat} {l : List (List (List Int))} {F : Nat → Nat → Nat → Int} (T : Tabs n l F) (h0 : 0 < l.length) (w : ByteArray) (hw : okW l.length w) (hs : w.size ≤ 1000000) (k : Nat) (hk : 500 + w.size ≤ k) : spec_l08Product.f k l w = some (prodR n F w w.size 0 eye) := by
  unfold spec_l08Product.f
  rw [if_pos (by omega), first_len T h0, mat_length, sunit_f k n T.dim (by omega), Option.bind_some]
  exact sprod_l0 T w hw hs w.size k 0 eye (by omega) (eye_big n) hk
theorem impl_product_f {n : Nat} {l : List (List (List Int))} {F : Nat → Nat → Nat → Int} (T : Tabs n l F) (h0 : 0 < l.length) (w : ByteArray) (hw : okW l.length w) (hs : w.size ≤ 1000000) (k : Nat) (hk : 500 + w.size ≤ k) : impl_product.f k l w = some (prodR n F w w.size 0 eye) := by
  have hd : impl_product.diag (mat n fun _ _ => 0).length (mat n fun _ _ => 0) = mat n eye := by
    rw [mat_length, diag_mat n n (Nat.le_refl _)]
    unfold mat
    refine tab_congr fun p hp => tab_congr fun q hq => ?_
    dsimp only
    rw [if_pos hp]
  have hc : ∀ j, j < (mat n fun _ _ => (0 : Int)).length → (mat n fun _ _ => (0 : Int)).length ≤ ((mat n fun _ _ => (0 : Int)).getD j []).length := by
    intro j hj
    rw [mat_length] at hj ⊢
    rw [List.getD_eq_getElem?_getD, List.getElem?_eq_getElem (by rw [mat_length]; exact hj), Option.getD_some]
    unfold mat
    rw [tab_get, tab_length]
    exact Nat.le_refl _
  unfold impl_product.f
  rw [if_pos (by omega), first_len T h0, mat_length, square_f k n T.dim (by omega), Option.bind_some, if_pos hc, hd]
  exact iprod_l0 T w hw hs w.size k 0 eye (by omega) (eye_big n) hk

end Go.Proofs.Ytcklefgkbddlhaa.Pure
/- Plain lemmas: the value of a series at tables: what one term does to the matrix of sums. -/
namespace Go.Proofs.Ytcklefgkbddlhaa.Pure
open Go.RowKit Go.Proofs.Ytcklefgkbddlhaa.P Go.Proofs.YtcklefgkbddlhaaW.PrintWords Go.Proofs.YtcklefgkbddlhaaW.PrintLast
set_option linter.unusedVariables false
set_option linter.unusedSimpArgs false

/-- A matrix of fractions by its entries. -/
def matS (n : Nat) (G : Nat → Nat → S27) : List (List S27) := tab n fun i => tab n (G i)
def okG (n : Nat) (G : Nat → Nat → S27) : Prop := ∀ i j, i < n → j < n → okF2 (G i j)
theorem matS_length (n : Nat) (G : Nat → Nat → S27) : (matS n G).length = n := tab_length _ _
theorem rdS_tab (n : Nat) (g : Nat → S27) (i : Nat) (h : i < n) : rd_T27 (tab n g) (i : Int) = g i := by
  unfold rd_T27
  rw [Int.toNat_natCast, List.getD_eq_getElem?_getD, List.getElem?_eq_getElem (by rw [tab_length]; exact h)]
  exact tab_get n g i _
theorem rdF_mat (n : Nat) (G : Nat → Nat → S27) (i : Nat) (h : i < n) : rd_L8 (matS n G) (i : Int) = tab n (G i) := by
  unfold rd_L8 matS
  rw [Int.toNat_natCast, List.getD_eq_getElem?_getD, List.getElem?_eq_getElem (by rw [tab_length]; exact h)]
  exact tab_get n (fun i => tab n (G i)) i _
/-- One entry more. -/
def putG (G : Nat → Nat → S27) (i j : Nat) (v : S27) : Nat → Nat → S27 := fun p q => if p = i ∧ q = j then v else G p q
theorem matS_set (n : Nat) (G : Nat → Nat → S27) (i j : Nat) (v : S27) : (matS n G).set i ((tab n (G i)).set j v) = matS n (putG G i j v) := by
  unfold matS
  rw [tab_set, tab_set]
  refine tab_congr fun p _ => ?_
  by_cases e : p = i
  · subst e
    rw [if_pos rfl]
    refine tab_congr fun q _ => ?_
    unfold putG
    by_cases e2 : q = j
    · rw [if_pos e2, if_pos ⟨rfl, e2⟩]
    · rw [if_neg e2, if_neg (fun h => e2 h.2)]
  · rw [if_neg e]
    refine tab_congr fun q _ => ?_
    unfold putG
    rw [if_neg (fun h => e h.1)]
theorem okG_put {n : Nat} {G : Nat → Nat → S27} (h : okG n G) (i j : Nat) {v : S27} (hv : okF2 v) : okG n (putG G i j v) := fun p q hp hq => by
  unfold putG
  split
  · exact hv
  · exact h p q hp hq
theorem ok_whole (n : Int) (h : -1000000000 ≤ n ∧ n ≤ 1000000000) : okF2 (⟨n, 1⟩ : S27) := by
  unfold okF2 fitF
  simp only [Bool.and_eq_true, decide_eq_true_eq]
  exact ⟨⟨by decide, by decide⟩, h, by simp⟩
/-- What a term adds at an entry. -/
def addE (v : S27) (f : Nat → Nat → Int) (G : Nat → Nat → S27) (i j : Nat) : S27 := plusF (G i j) (timesF v ⟨f i j, 1⟩)
/-- A term, along a row from a column on. -/
def colsV (v : S27) (f : Nat → Nat → Int) (i : Nat) : Nat → Nat → (Nat → Nat → S27) → Option (Nat → Nat → S27)
  | 0, _, G => some G
  | e + 1, j, G => if fitF (timesF v ⟨f i j, 1⟩).f0 (timesF v ⟨f i j, 1⟩).f1 = true then (if fitF (addE v f G i j).f0 (addE v f G i j).f1 = true then colsV v f i e (j + 1) (putG G i j (addE v f G i j)) else none) else none
/-- A term, from a row on. -/
def rowsV (v : S27) (f : Nat → Nat → Int) (n : Nat) : Nat → Nat → (Nat → Nat → S27) → Option (Nat → Nat → S27)
  | 0, _, G => some G
  | e + 1, i, G => match colsV v f i n 0 G with
    | none => none
    | some G' => rowsV v f n e (i + 1) G'
/-- The terms from one on. -/
def termsV (n : Nat) (P : ByteArray → List (List Int) × Bool) : List S89 → (Nat → Nat → S27) → Option (Nat → Nat → S27)
  | [], G => some G
  | t :: ts, G => if (P t.f0).2 = true then (match rowsV t.f1 (ent (P t.f0).1) n n 0 G with
    | none => none
    | some G' => termsV n P ts G') else none
theorem tab_getD {α : Type} (n : Nat) (g : Nat → α) (i : Nat) (d : α) (h : i < n) : (tab n g).getD i d = g i := by
  rw [List.getD_eq_getElem?_getD, List.getElem?_eq_getElem (by rw [tab_length]; exact h), tab_get]
  rfl
theorem ent_at (n : Nat) (g : Nat → Nat → Int) (i j : Nat) (hi : i < n) (hj : j < n) : ent (mat n g) i j = g i j := by
  unfold ent mat
  rw [tab_getD n (fun i => tab n (g i)) i _ hi, tab_getD n (g i) j _ hj]
theorem ent_mat (n : Nat) (g : Nat → Nat → Int) : mat n (ent (mat n g)) = mat n g := by
  unfold mat
  exact tab_congr fun i hi => tab_congr fun j hj => ent_at n g i j hi hj
theorem prodR_big (n : Nat) (F : Nat → Nat → Nat → Int) (w : ByteArray) : ∀ e i f, big n f → (∃ g, big n g ∧ prodR n F w e i f = (mat n g, true)) ∨ prodR n F w e i f = (([] : List (List Int)), false) := by
  intro e
  induction e with
  | zero => exact fun i f hf => .inl ⟨f, hf, by rw [prodR]⟩
  | succ e ih =>
    intro i f hf
    rw [prodR]
    by_cases h : okM n (pm n f (F (ltr w i))) = true
    · rw [if_pos h]
      exact ih (i + 1) _ (okM_big h)
    · rw [if_neg h]
      exact .inr rfl
end Go.Proofs.Ytcklefgkbddlhaa.Pure
/- Plain lemmas: the value of a series at tables, as the reference reckons it. -/
namespace Go.Proofs.Ytcklefgkbddlhaa.Pure
open Go.RowKit Go.Proofs.Ytcklefgkbddlhaa.P Go.Proofs.YtcklefgkbddlhaaW.PrintWords Go.Proofs.YtcklefgkbddlhaaW.PrintLast
set_option linter.unusedVariables false
set_option linter.unusedSimpArgs false

section
variable {n : Nat} {T1 : List (List (List Int))} {l : List S89} {a0 a1 : Int} {R : List (List S27) × Bool}
theorem s_l4 (hn : n ≤ 6) (m : Nat) (hm : m < l.length) (f : Nat → Nat → Int) (hf : big n f) (v : S27) (hv0 : (rd_T89 l (m : Int)).f1 = v) (hv : okF2 v) (i : Nat) (hi : i < n) :
    ∀ e j G, j + e = n → okG n G → (match colsV v f i e j G with | none => R = ([], false) | some G' => okG n G' → Ev (fun k => spec_l08Value.l3 k T1 (n : Int) (matS n G') (m : Int) (mat n f) ((i + 1 : Nat) : Int) a0 a1 l) R) →
    Ev (fun k => spec_l08Value.l4 k T1 (n : Int) (matS n G) (m : Int) (mat n f) (i : Int) (j : Int) a0 a1 l) R
  | 0, j, G, hj, hG, h => by
    refine Ev.step (fun k => ?_) (h hG)
    simp only [spec_l08Value.l4]
    rw [if_neg (by omega), wrap_nat _ (by omega)]
  | e + 1, j, G, hj, hG, h => by
    have c1 : ((j : Int) < (n : Int)) = True := eq_true (by omega)
    have c2 : ((m : Int) < (l.length : Int)) = True := eq_true (by omega)
    have c3 : ((i : Int) < (n : Int)) = True := eq_true (by omega)
    have c4 : (0 ≤ (j : Int)) = True := eq_true (by omega)
    have c5 : (0 ≤ (i : Int)) = True := eq_true (by omega)
    have c6 : (0 ≤ (m : Int)) = True := eq_true (by omega)
    have hw := ok_whole (f i j) (hf i j hi (by omega))
    refine Ev.step (f := fun k => (spec_l01TimesFrac.f k v.f0 v.f1 (f i j) 1).bind fun bt205 => ((spec_l01Plus.f k (G i j).f0 (G i j).f1 bt205.1 bt205.2.1).bind fun bt211 => (if bt205.2.2 = true then (if bt211.2.2 = true then (spec_l08Value.l4 k T1 (n : Int) (matS n (putG G i j ⟨bt211.1, bt211.2.1⟩)) (m : Int) (mat n f) (i : Int) ((j + 1 : Nat) : Int) a0 a1 l) else (some (([] : List (List S27)), false))) else (some (([] : List (List S27)), false))))) (fun k => ?_) ?_
    · simp only [spec_l08Value.l4, rdR_mat n f i hi, rdF_mat n G i hi, tab_length, mat_length, matS_length, rd_tab n (f i) j (by omega), rdS_tab n (G i) j (by omega), c1, c2, c3, c4, c5, c6, if_true, Int.toNat_natCast, spec_l02One.f, Option.bind_some, hv0, wrap_nat j (by omega), matS_set]
    · generalize hT : timesF v ⟨f i j, 1⟩ = T
      have ht := spec_times_f v ⟨f i j, 1⟩ hv hw
      rw [hT] at ht
      unfold colsV addE at h
      rw [hT] at h
      refine Ev.bind (f := fun k bt205 => ((spec_l01Plus.f k (G i j).f0 (G i j).f1 bt205.1 bt205.2.1).bind fun bt211 => (if bt205.2.2 = true then (if bt211.2.2 = true then (spec_l08Value.l4 k T1 (n : Int) (matS n (putG G i j ⟨bt211.1, bt211.2.1⟩)) (m : Int) (mat n f) (i : Int) ((j + 1 : Nat) : Int) a0 a1 l) else (some (([] : List (List S27)), false))) else (some (([] : List (List S27)), false))))) ht ?_
      by_cases f1 : fitF T.f0 T.f1 = true
      · rw [if_pos f1] at h
        rw [if_pos f1]
        have hp := spec_plus_f (G i j) T (hG i j hi (by omega)) f1
        by_cases f2 : fitF (plusF (G i j) T).f0 (plusF (G i j) T).f1 = true
        · rw [if_pos f2] at h hp
          refine Ev.bind (f := fun k bt211 => (if true = true then (if bt211.2.2 = true then (spec_l08Value.l4 k T1 (n : Int) (matS n (putG G i j ⟨bt211.1, bt211.2.1⟩)) (m : Int) (mat n f) (i : Int) ((j + 1 : Nat) : Int) a0 a1 l) else (some (([] : List (List S27)), false))) else (some (([] : List (List S27)), false)))) hp ?_
          exact s_l4 hn m hm f hf v hv0 hv i hi e (j + 1) _ (by omega) (okG_put hG i j f2) h
        · rw [if_neg f2] at h hp
          subst h
          refine Ev.bind (f := fun k bt211 => (if true = true then (if bt211.2.2 = true then (spec_l08Value.l4 k T1 (n : Int) (matS n (putG G i j ⟨bt211.1, bt211.2.1⟩)) (m : Int) (mat n f) (i : Int) ((j + 1 : Nat) : Int) a0 a1 l) else (some (([] : List (List S27)), false))) else (some (([] : List (List S27)), false)))) hp ?_
          exact Ev.now _
      · rw [if_neg f1] at h
        rw [if_neg f1]
        subst h
        refine Ev.bind (f := fun k bt211 => (if false = true then (if bt211.2.2 = true then (spec_l08Value.l4 k T1 (n : Int) (matS n (putG G i j ⟨bt211.1, bt211.2.1⟩)) (m : Int) (mat n f) (i : Int) ((j + 1 : Nat) : Int) a0 a1 l) else (some (([] : List (List S27)), false))) else (some (([] : List (List S27)), false)))) (spec_plus_0 (G i j).f0 (G i j).f1) ?_
        exact Ev.now _
theorem s_l3 (hn : n ≤ 6) (m : Nat) (hm : m < l.length) (hl : l.length ≤ 1048576) (f : Nat → Nat → Int) (hf : big n f) (v : S27) (hv0 : (rd_T89 l (m : Int)).f1 = v) (hv : okF2 v) :
    ∀ e i G, i + e = n → okG n G → (match rowsV v f n e i G with | none => R = ([], false) | some G' => okG n G' → Ev (fun k => spec_l08Value.l2 k T1 (n : Int) (matS n G') ((m + 1 : Nat) : Int) a0 a1 l) R) →
    Ev (fun k => spec_l08Value.l3 k T1 (n : Int) (matS n G) (m : Int) (mat n f) (i : Int) a0 a1 l) R
  | 0, i, G, hi, hG, h => by
    refine Ev.step (fun k => ?_) (h hG)
    simp only [spec_l08Value.l3]
    rw [if_neg (by omega), wrap_nat _ (by omega)]
  | e + 1, i, G, hi, hG, h => by
    refine Ev.step (f := fun k => spec_l08Value.l4 k T1 (n : Int) (matS n G) (m : Int) (mat n f) (i : Int) ((0 : Nat) : Int) a0 a1 l) (fun k => ?_) ?_
    · simp only [spec_l08Value.l3]
      rw [if_pos (by omega), if_pos (by omega), if_pos (by rw [matS_length]; omega)]
      rfl
    · refine s_l4 hn m hm f hf v hv0 hv i (by omega) n 0 G (by omega) hG ?_
      unfold rowsV at h
      cases hc : colsV v f i n 0 G with
      | none => rw [hc] at h; exact h
      | some G' =>
        rw [hc] at h
        intro hG'
        exact s_l3 hn m hm hl f hf v hv0 hv e (i + 1) G' (by omega) hG' h
theorem s_l2 (hn : n ≤ 6) (hl : l.length ≤ 1048576) {F : Nat → Nat → Nat → Int} (T : Tabs n T1 F) (h0 : 0 < T1.length) (hw : ∀ t ∈ l, okW T1.length t.f0 ∧ t.f0.size ≤ 1000 ∧ okF2 t.f1) :
    ∀ e m G, m + e = l.length → okG n G → (match termsV n (fun w => prodR n F w w.size 0 eye) (l.drop m) G with | none => R = ([], false) | some G' => R = (matS n G', true)) →
    Ev (fun k => spec_l08Value.l2 k T1 (n : Int) (matS n G) (m : Int) a0 a1 l) R
  | 0, m, G, hm, hG, h => by
    rw [List.drop_of_length_le (by omega)] at h
    simp only [termsV] at h
    subst h
    refine Ev.step (f := fun _ => some (matS n G, true)) (fun k => ?_) (Ev.now _)
    simp only [spec_l08Value.l2]
    rw [if_neg (by omega)]
  | e + 1, m, G, hm, hG, h => by
    have hml : m < l.length := by omega
    have hr : rd_T89 l (m : Int) = l[m] := by simp [rd_T89, List.getD_eq_getElem?_getD, hml]
    obtain ⟨t1, t2, t3⟩ := hw l[m] (List.getElem_mem hml)
    rw [List.drop_eq_getElem_cons hml] at h
    unfold termsV at h
    have hp : Ev (fun k => spec_l08Product.f k T1 (rd_T89 l (m : Int)).f0) (prodR n F l[m].f0 l[m].f0.size 0 eye) := ⟨1500, fun k hk => by rw [hr]; exact spec_product_f T h0 _ t1 (by omega) k (by omega)⟩
    refine Ev.step (f := fun k => (spec_l08Product.f k T1 (rd_T89 l (m : Int)).f0).bind fun bt196 => (if bt196.2 = true then (spec_l08Value.l3 k T1 (n : Int) (matS n G) (m : Int) bt196.1 0 a0 a1 l) else (some (([] : List (List S27)), false)))) (fun k => ?_) ?_
    · simp only [spec_l08Value.l2]
      rw [if_pos (by omega), if_pos (by omega)]
    · refine Ev.bind (f := fun k bt196 => (if bt196.2 = true then (spec_l08Value.l3 k T1 (n : Int) (matS n G) (m : Int) bt196.1 0 a0 a1 l) else (some (([] : List (List S27)), false)))) hp ?_
      rcases prodR_big n F l[m].f0 l[m].f0.size 0 eye (eye_big n) with ⟨g, hg, e1⟩ | e1
      · rw [e1] at h ⊢
        rw [if_pos rfl] at h
        refine Ev.congr (fun k => if_pos rfl) ?_
        rw [← ent_mat n g]
        refine s_l3 hn m hml hl (ent (mat n g)) (fun i j hi hj => by rw [ent_at n g i j hi hj]; exact hg i j hi hj) l[m].f1 (by rw [hr]) t3 n 0 G (by omega) hG ?_
        dsimp only at h
        cases hc : rowsV l[m].f1 (ent (mat n g)) n n 0 G with
        | none => rw [hc] at h; exact h
        | some G' =>
          rw [hc] at h
          intro hG'
          exact s_l2 hn hl T h0 hw e (m + 1) G' (by omega) hG' h
      · rw [e1] at h ⊢
        rw [if_neg (by simp)] at h
        dsimp only at h
        subst h
        exact Ev.congr (fun k => if_neg (by simp)) (Ev.now _)
/-- Rows of zeros. -/
def zG : Nat → Nat → S27 := fun _ _ => ⟨0, 1⟩
theorem okG_z (n : Nat) : okG n zG := fun _ _ _ _ => ok01
theorem z_l1 (hn : n ≤ 6) (i : Nat) (hi : i < n) (x7 : List (List S27)) (h7 : x7.length ≤ 6) : ∀ e j, j + e = n → Ev (fun k => spec_l08Value.l0 k T1 (n : Int) (x7 ++ [tab n fun _ => ⟨0, 1⟩]) ((i + 1 : Nat) : Int) a0 a1 l) R →
    Ev (fun k => spec_l08Value.l1 k T1 (n : Int) x7 (i : Int) (tab j fun _ => ⟨0, 1⟩) (j : Int) a0 a1 l) R
  | 0, j, hj, h => by
    obtain rfl : j = n := by omega
    refine Ev.step (fun k => ?_) h
    simp only [spec_l08Value.l1]
    rw [if_neg (by omega), if_pos (by omega), wrap_nat _ (by omega)]
  | e + 1, j, hj, h => by
    have ih := z_l1 hn i hi x7 h7 e (j + 1) (by omega) h
    refine Ev.step (fun k => ?_) ih
    simp only [spec_l08Value.l1]
    rw [if_pos (by omega)]
    unfold spec_l02One.f
    rw [Option.bind_some, if_pos (by rw [tab_length]; omega), wrap_nat _ (by omega), tab_succ]
theorem z_l0 (hn : n ≤ 6) : ∀ e i, i + e = n → Ev (fun k => spec_l08Value.l2 k T1 (n : Int) (matS n zG) ((0 : Nat) : Int) a0 a1 l) R →
    Ev (fun k => spec_l08Value.l0 k T1 (n : Int) (tab i fun _ => tab n fun _ => ⟨0, 1⟩) (i : Int) a0 a1 l) R
  | 0, i, hi, h => by
    obtain rfl : i = n := by omega
    refine Ev.step (fun k => ?_) h
    simp only [spec_l08Value.l0]
    rw [if_neg (by omega)]
    rfl
  | e + 1, i, hi, h => by
    have ih := z_l0 hn e (i + 1) (by omega) h
    refine Ev.step (f := fun k => spec_l08Value.l1 k T1 (n : Int) (tab i fun _ => tab n fun _ => ⟨0, 1⟩) (i : Int) (tab 0 fun _ => ⟨0, 1⟩) ((0 : Nat) : Int) a0 a1 l) (fun k => ?_) ?_
    · simp only [spec_l08Value.l0]
      rw [if_pos (by omega)]
      rfl
    · refine z_l1 hn i (by omega) _ (by rw [tab_length]; omega) n 0 (by omega) ?_
      rw [tab_succ] at ih
      exact ih
theorem spec_value_f (h1 : 1 ≤ n) (hn : n ≤ 6) (hl : l.length ≤ 1048576) {F : Nat → Nat → Nat → Int} (T : Tabs n T1 F) (h0 : 0 < T1.length) (hw : ∀ t ∈ l, okW T1.length t.f0 ∧ t.f0.size ≤ 1000 ∧ okF2 t.f1) :
    Ev (fun k => spec_l08Value.f k a0 a1 l T1) (match termsV n (fun w => prodR n F w w.size 0 eye) l zG with | none => ([], false) | some G' => (matS n G', true)) := by
  refine Ev.congr (fun k => ?_) (z_l0 (a0 := a0) (a1 := a1) hn n 0 (by omega) (s_l2 hn hl T h0 hw l.length 0 zG (by omega) (okG_z n) (by rw [List.drop_zero]; split <;> rfl)))
  unfold spec_l08Value.f
  rw [if_pos (by omega), first_len T h0, mat_length]
  rfl
end
end Go.Proofs.Ytcklefgkbddlhaa.Pure
/- Plain lemmas: the value of a series at tables, as the program reckons it. -/
namespace Go.Proofs.Ytcklefgkbddlhaa.Pure
open Go.RowKit Go.Proofs.Ytcklefgkbddlhaa.P Go.Proofs.YtcklefgkbddlhaaW.PrintWords Go.Proofs.YtcklefgkbddlhaaW.PrintLast
set_option linter.unusedVariables false
set_option linter.unusedSimpArgs false

theorem fractions_l0 (n : Nat) (h1 : 1 ≤ n) (hn : n ≤ 6) : ∀ e i (D : List (List S27)), i + e = n → D.length = i →
    Ev (fun k => impl_fractions.l0 k (n : Int) (D ++ List.replicate e []) (n : Int) (i : Int)) (D ++ List.replicate e (List.replicate n ⟨0, 1⟩))
  | 0, i, D, hi, hD => by
    refine Ev.step (f := fun _ => some D) (fun k => ?_) (by simpa using Ev.now D)
    simp only [impl_fractions.l0]
    rw [if_neg (by omega)]
    simp
  | e + 1, i, D, hi, hD => by
    have ih := fractions_l0 n h1 hn e (i + 1) (D ++ [List.replicate n ⟨0, 1⟩]) (by omega) (by simp [hD])
    have e0 : (D ++ [List.replicate n (⟨0, 1⟩ : S27)]) ++ List.replicate e (List.replicate n ⟨0, 1⟩) = D ++ List.replicate (e + 1) (List.replicate n ⟨0, 1⟩) := by
      rw [List.append_assoc, List.replicate_succ]; rfl
    rw [e0] at ih
    refine Ev.step (fun k => ?_) ih
    simp only [impl_fractions.l0]
    have e1 : impl_Fraction.f ([(⟨0, 1⟩ : S27)]) (n : Int) = some (List.replicate n ⟨0, 1⟩) := by
      unfold impl_Fraction.f
      rw [if_pos ⟨rfl, by omega, by omega⟩, Int.toNat_natCast]
      rfl
    have e2 : (D ++ List.replicate (e + 1) ([] : List S27)).set i (List.replicate n ⟨0, 1⟩) = (D ++ [List.replicate n ⟨0, 1⟩]) ++ List.replicate e [] := by
      rw [List.set_append_right _ _ (by omega), show i - D.length = 0 by omega, List.replicate_succ, List.set_cons_zero, List.append_assoc]
      rfl
    rw [if_pos (by omega)]
    unfold impl_zero.f
    rw [Option.bind_some]
    dsimp only
    rw [e1, Option.bind_some, if_pos (by omega), if_pos (by simp; omega), Int.toNat_natCast, wrap_nat _ (by omega), e2]
theorem fractions_f (n : Nat) (h1 : 1 ≤ n) (hn : n ≤ 6) : Ev (fun k => impl_fractions.f k (n : Int)) (List.replicate n (List.replicate n ⟨0, 1⟩)) := by
  have h := fractions_l0 n h1 hn n 0 [] (by omega) rfl
  simp only [List.nil_append] at h
  refine Ev.congr (fun k => ?_) h
  unfold impl_fractions.f
  rw [if_pos (by omega), if_pos (by omega), Option.bind_some, List.length_replicate, Int.toNat_natCast]
  rfl
section
variable {n : Nat} {T1 : List (List (List Int))} {l : List S89} {R : List (List S27) × Int}
theorem i_l2 (hn : n ≤ 6) (m : Nat) (L : Int) (w : ByteArray) (f : Nat → Nat → Int) (hf : big n f) (v : S27) (hv : okF2 v) (i : Nat) (hi : i < n) :
    ∀ e j G, j + e = n → okG n G → (match colsV v f i e j G with | none => R = ([], 3) | some G' => okG n G' → Ev (fun k => impl_valueAt.l1 k T1 (matS n G') l L (m : Int) (mat n f) (n : Int) ((i + 1 : Nat) : Int) w v.f0 v.f1) R) →
    Ev (fun k => impl_valueAt.l2 k T1 (matS n G) (i : Int) l L (m : Int) (mat n f) (n : Int) (i : Int) (tab n (f i)) (n : Int) (j : Int) w v.f0 v.f1) R
  | 0, j, G, hj, hG, h => by
    refine Ev.step (fun k => ?_) (h hG)
    simp only [impl_valueAt.l2]
    rw [if_neg (by omega), wrap_nat _ (by omega)]
  | e + 1, j, G, hj, hG, h => by
    have c1 : ((j : Int) < (n : Int)) = True := eq_true (by omega)
    have c3 : ((i : Int) < (n : Int)) = True := eq_true (by omega)
    have c4 : (0 ≤ (j : Int)) = True := eq_true (by omega)
    have c5 : (0 ≤ (i : Int)) = True := eq_true (by omega)
    have hfb := hf i j hi (by omega)
    refine Ev.step (f := fun k => (impl_Fraction_timesWhole.f k v.f0 v.f1 (f i j)).bind fun bt396 => (if bt396.2.2 = true then ((impl_Fraction_plus.f k (G i j).f0 (G i j).f1 bt396.1 bt396.2.1).bind fun bt402 => (if bt402.2.2 = true then (impl_valueAt.l2 k T1 (matS n (putG G i j ⟨bt402.1, bt402.2.1⟩)) (i : Int) l L (m : Int) (mat n f) (n : Int) (i : Int) (tab n (f i)) (n : Int) ((j + 1 : Nat) : Int) w v.f0 v.f1) else (some (([] : List (List S27)), 3)))) else (some (([] : List (List S27)), 3)))) (fun k => ?_) ?_
    · simp only [impl_valueAt.l2, rdF_mat n G i hi, tab_length, mat_length, matS_length, rd_tab n (f i) j (by omega), rdS_tab n (G i) j (by omega), c1, c3, c4, c5, if_true, Int.toNat_natCast, wrap_nat j (by omega), matS_set]
    · generalize hT : timesF v ⟨f i j, 1⟩ = T
      have ht := whole_f v (f i j) hv (by omega)
      rw [hT] at ht
      unfold colsV addE at h
      rw [hT] at h
      refine Ev.bind (f := fun k bt396 => (if bt396.2.2 = true then ((impl_Fraction_plus.f k (G i j).f0 (G i j).f1 bt396.1 bt396.2.1).bind fun bt402 => (if bt402.2.2 = true then (impl_valueAt.l2 k T1 (matS n (putG G i j ⟨bt402.1, bt402.2.1⟩)) (i : Int) l L (m : Int) (mat n f) (n : Int) (i : Int) (tab n (f i)) (n : Int) ((j + 1 : Nat) : Int) w v.f0 v.f1) else (some (([] : List (List S27)), 3)))) else (some (([] : List (List S27)), 3)))) ht ?_
      by_cases f1 : fitF T.f0 T.f1 = true
      · rw [if_pos f1] at h
        refine Ev.congr (fun k => if_pos f1) ?_
        have hp := impl_plus_f (G i j) T (hG i j hi (by omega)) f1
        refine Ev.bind (f := fun k bt402 => (if bt402.2.2 = true then (impl_valueAt.l2 k T1 (matS n (putG G i j ⟨bt402.1, bt402.2.1⟩)) (i : Int) l L (m : Int) (mat n f) (n : Int) (i : Int) (tab n (f i)) (n : Int) ((j + 1 : Nat) : Int) w v.f0 v.f1) else (some (([] : List (List S27)), 3)))) hp ?_
        by_cases f2 : fitF (plusF (G i j) T).f0 (plusF (G i j) T).f1 = true
        · rw [if_pos f2] at h
          refine Ev.congr (fun k => if_pos f2) ?_
          exact i_l2 hn m L w f hf v hv i hi e (j + 1) _ (by omega) (okG_put hG i j f2) h
        · rw [if_neg f2] at h
          subst h
          exact Ev.congr (fun k => if_neg f2) (Ev.now _)
      · rw [if_neg f1] at h
        subst h
        exact Ev.congr (fun k => if_neg f1) (Ev.now _)
theorem i_l1 (hn : n ≤ 6) (m : Nat) (hm : m ≤ 1048576) (L : Int) (w : ByteArray) (f : Nat → Nat → Int) (hf : big n f) (v : S27) (hv : okF2 v) :
    ∀ e i G, i + e = n → okG n G → (match rowsV v f n e i G with | none => R = ([], 3) | some G' => okG n G' → Ev (fun k => impl_valueAt.l0 k T1 (matS n G') l L ((m + 1 : Nat) : Int)) R) →
    Ev (fun k => impl_valueAt.l1 k T1 (matS n G) l L (m : Int) (mat n f) (n : Int) (i : Int) w v.f0 v.f1) R
  | 0, i, G, hi, hG, h => by
    refine Ev.step (fun k => ?_) (h hG)
    simp only [impl_valueAt.l1]
    rw [if_neg (by omega), wrap_nat _ (by omega)]
  | e + 1, i, G, hi, hG, h => by
    refine Ev.step (f := fun k => impl_valueAt.l2 k T1 (matS n G) (i : Int) l L (m : Int) (mat n f) (n : Int) (i : Int) (tab n (f i)) (n : Int) ((0 : Nat) : Int) w v.f0 v.f1) (fun k => ?_) ?_
    · simp only [impl_valueAt.l1]
      rw [if_pos (by omega), if_pos (by omega), if_pos (by rw [mat_length]; omega), rdR_mat n f i (by omega), tab_length]
      rfl
    · refine i_l2 hn m L w f hf v hv i (by omega) n 0 G (by omega) hG ?_
      unfold rowsV at h
      cases hc : colsV v f i n 0 G with
      | none => rw [hc] at h; exact h
      | some G' =>
        rw [hc] at h
        intro hG'
        exact i_l1 hn m hm L w f hf v hv e (i + 1) G' (by omega) hG' h
theorem i_l0 (hn : n ≤ 6) (hl : l.length ≤ 1048576) {F : Nat → Nat → Nat → Int} (T : Tabs n T1 F) (h0 : 0 < T1.length) (hw : ∀ t ∈ l, okW T1.length t.f0 ∧ t.f0.size ≤ 1000 ∧ okF2 t.f1) :
    ∀ e m G, m + e = l.length → okG n G → (match termsV n (fun w => prodR n F w w.size 0 eye) (l.drop m) G with | none => R = ([], 3) | some G' => R = (matS n G', 0)) →
    Ev (fun k => impl_valueAt.l0 k T1 (matS n G) l (l.length : Int) (m : Int)) R
  | 0, m, G, hm, hG, h => by
    rw [List.drop_of_length_le (by omega)] at h
    simp only [termsV] at h
    subst h
    refine Ev.step (f := fun _ => some (matS n G, 0)) (fun k => ?_) (Ev.now _)
    simp only [impl_valueAt.l0]
    rw [if_neg (by omega)]
  | e + 1, m, G, hm, hG, h => by
    have hml : m < l.length := by omega
    have hr : rd_T89 l (m : Int) = l[m] := by simp [rd_T89, List.getD_eq_getElem?_getD, hml]
    obtain ⟨t1, t2, t3⟩ := hw l[m] (List.getElem_mem hml)
    rw [List.drop_eq_getElem_cons hml] at h
    unfold termsV at h
    have hp : Ev (fun k => impl_product.f k T1 (rd_T89 l (m : Int)).f0) (prodR n F l[m].f0 l[m].f0.size 0 eye) := ⟨1500, fun k hk => by rw [hr]; exact impl_product_f T h0 _ t1 (by omega) k (by omega)⟩
    refine Ev.step (f := fun k => (impl_product.f k T1 ((rd_T89 l (m : Int)).f0)).bind fun bt390 => (if bt390.2 = true then (impl_valueAt.l1 k T1 (matS n G) l (l.length : Int) (m : Int) bt390.1 (bt390.1.length : Int) 0 ((rd_T89 l (m : Int)).f0) ((rd_T89 l (m : Int)).f1.f0) ((rd_T89 l (m : Int)).f1.f1)) else (some (([] : List (List S27)), 3)))) (fun k => ?_) ?_
    · simp only [impl_valueAt.l0]
      rw [if_pos (by omega), if_pos (by omega), if_pos (by omega)]
    · refine Ev.bind (f := fun k bt390 => (if bt390.2 = true then (impl_valueAt.l1 k T1 (matS n G) l (l.length : Int) (m : Int) bt390.1 (bt390.1.length : Int) 0 ((rd_T89 l (m : Int)).f0) ((rd_T89 l (m : Int)).f1.f0) ((rd_T89 l (m : Int)).f1.f1)) else (some (([] : List (List S27)), 3)))) hp ?_
      rcases prodR_big n F l[m].f0 l[m].f0.size 0 eye (eye_big n) with ⟨g, hg, e1⟩ | e1
      · rw [e1] at h ⊢
        rw [if_pos rfl] at h
        refine Ev.congr (fun k => if_pos rfl) ?_
        dsimp only
        rw [mat_length, hr, ← ent_mat n g]
        refine i_l1 hn m (by omega) _ _ (ent (mat n g)) (fun i j hi hj => by rw [ent_at n g i j hi hj]; exact hg i j hi hj) l[m].f1 t3 n 0 G (by omega) hG ?_
        dsimp only at h
        cases hc : rowsV l[m].f1 (ent (mat n g)) n n 0 G with
        | none => rw [hc] at h; exact h
        | some G' =>
          rw [hc] at h
          intro hG'
          exact i_l0 hn hl T h0 hw e (m + 1) G' (by omega) hG' h
      · rw [e1] at h ⊢
        rw [if_neg (by simp)] at h
        dsimp only at h
        subst h
        exact Ev.congr (fun k => if_neg (by simp)) (Ev.now _)
theorem impl_value_f (h1 : 1 ≤ n) (hn : n ≤ 6) (a0 a1 : Int) (hl : l.length ≤ 1048576) {F : Nat → Nat → Nat → Int} (T : Tabs n T1 F) (h0 : 0 < T1.length) (hw : ∀ t ∈ l, okW T1.length t.f0 ∧ t.f0.size ≤ 1000 ∧ okF2 t.f1) :
    Ev (fun k => impl_valueAt.f k a0 a1 l T1) (match termsV n (fun w => prodR n F w w.size 0 eye) l zG with | none => ([], 3) | some G' => (matS n G', 0)) := by
  have hf := fractions_f n h1 hn
  have e0 : List.replicate n (List.replicate n (⟨0, 1⟩ : S27)) = matS n zG := by
    unfold matS
    rw [tab_rep, tab_rep]
    rfl
  rw [e0] at hf
  refine Ev.congr (fun k => ?_) (Ev.bind (f := fun k t385 => impl_valueAt.l0 k T1 t385 l (l.length : Int) ((0 : Nat) : Int)) hf (i_l0 hn hl T h0 hw l.length 0 zG (by omega) (okG_z n) (by rw [List.drop_zero]; split <;> rfl)))
  unfold impl_valueAt.f
  rw [if_pos (by omega), first_len T h0, mat_length]
  rfl
end
end Go.Proofs.Ytcklefgkbddlhaa.Pure
