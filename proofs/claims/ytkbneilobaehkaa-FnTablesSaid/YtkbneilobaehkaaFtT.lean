/- Plain lemmas: the tables of a word, in both programs. -/
import Derived.Test.YtkbneilobaehkaaPx17
import Derived.Test.YtkbneilobaehkaaFtC
namespace Go.Proofs.Ytkbneilobaehkaa.Pure
open Go.RowKit Go.Proofs.Ytkbneilobaehkaa.P Go.Proofs.YtkbneilobaehkaaW.PrintWords Go.Proofs.YtkbneilobaehkaaW.PrintLast
set_option linter.unusedVariables false
set_option linter.unusedSimpArgs false

theorem rdT_tab (n : Nat) (g : Nat → List (List Int)) (i : Nat) (h : i < n) : rd_L4 (tab n g) (i : Int) = g i := by
 rw [rdT_nat _ i (by rw [tab_length]; exact h)]; exact tab_get n g i _
/-- The entries of letter a's table, as the first m letters leave it. -/
def ET (s : ByteArray) (m a p q : Nat) : Int := if p < m ∧ ltr s p = a ∧ q = p + 1 then 1 else 0
theorem stab_l1 (d : Nat) (hd : d ≤ 3) (s : ByteArray) (hs : s.size ≤ 5) (hw : okW d s) (x5 : List (List (List Int))) (h5 : x5.length ≤ 3) (a : Nat) (ha : a < d) : ∀ e k p, p + e = s.size + 1 →
 spec_l08Tables.l1 (k + e + 1) (d : Int) s x5 (a : Int) (tab p fun p => tab (s.size + 1) (ET s s.size a p)) (p : Int) = spec_l08Tables.l0 k (d : Int) s (x5 ++ [mat (s.size + 1) (ET s s.size a)]) (wrap64 ((a : Int) + 1)) := by
 intro e
 have hz : wrap64 ((s.size : Int) + 1) = ((s.size + 1 : Nat) : Int) := wrap_nat _ (by omega)
 induction e with
 | zero =>
  intro k p h
  obtain rfl : p = s.size + 1 := by omega
  rw [show k + 0 + 1 = k + 1 from rfl, spec_l08Tables.l1, if_neg (by omega), if_pos (by omega)]
  rfl
 | succ e ih =>
  intro k p h
  rw [show k + (e + 1) + 1 = (k + e + 1) + 1 from by omega, spec_l08Tables.l1, if_pos (by omega), hz, if_pos (by omega), if_pos (by omega), Option.bind_some, Int.toNat_natCast, wrap_nat p (by omega)]
  have hl : (tab p fun p => tab (s.size + 1) (ET s s.size a p)).length < 5864062014805 := by rw [tab_length]; omega
  have hrow : ∀ v : List Int, v = tab (s.size + 1) (ET s s.size a p) → (tab p fun p => tab (s.size + 1) (ET s s.size a p)) ++ [v] = tab (p + 1) fun p => tab (s.size + 1) (ET s s.size a p) := by
   intro v hv
   rw [tab_succ, hv]
  have hzero : ¬ (p < s.size ∧ ltr s p = a) → List.replicate (s.size + 1) (0 : Int) = tab (s.size + 1) (ET s s.size a p) := by
   intro hn
   rw [tab_rep]
   refine tab_congr fun q hq => ?_
   unfold ET
   rw [if_neg (fun h => hn ⟨h.1, h.2.1⟩)]
  by_cases hp : p < s.size
  ·obtain ⟨h1, h2⟩ := ltr_lt hd hw p hp
   rw [if_pos (by omega), if_pos (by omega), h2]
   by_cases hla : ltr s p = a
   ·rw [if_pos (by omega), if_pos (by omega), if_pos (by rw [List.length_replicate]; omega), if_pos hl, Int.toNat_natCast, hrow _ ?_]
    ·exact ih k (p + 1) (by omega)
    ·rw [tab_rep, tab_set]
     refine tab_congr fun q hq => ?_
     unfold ET
     by_cases e2 : q = p + 1
     ·rw [if_pos e2, if_pos ⟨hp, hla, e2⟩]
     ·rw [if_neg e2, if_neg (fun h => e2 h.2.2)]
   ·rw [if_neg (by omega), if_pos hl, hrow _ (hzero (fun h => hla h.2))]
    exact ih k (p + 1) (by omega)
  ·rw [if_neg (by omega), if_pos hl, hrow _ (hzero (fun h => hp h.1))]
   exact ih k (p + 1) (by omega)
theorem stab_l0 (d : Nat) (hd : d ≤ 3) (s : ByteArray) (hs : s.size ≤ 5) (hw : okW d s) : ∀ e k a, a + e = d → e * 20 + 1 ≤ k →
 spec_l08Tables.l0 k (d : Int) s (tab a fun a => mat (s.size + 1) (ET s s.size a)) (a : Int) = some (tab d fun a => mat (s.size + 1) (ET s s.size a)) := by
 intro e
 induction e with
 | zero =>
  intro k a h hk
  obtain ⟨k, rfl⟩ : ∃ m, k = m + 1 := ⟨k - 1, by omega⟩
  obtain rfl : a = d := by omega
  rw [spec_l08Tables.l0, if_neg (by omega)]
 | succ e ih =>
  intro k a h hk
  obtain ⟨k, rfl⟩ : ∃ m, k = (m + (s.size + 1) + 1) + 1 := ⟨k - (s.size + 3), by omega⟩
  rw [spec_l08Tables.l0, if_pos (by omega)]
  have := stab_l1 d hd s hs hw (tab a fun a => mat (s.size + 1) (ET s s.size a)) (by rw [tab_length]; omega) a (by omega) (s.size + 1) k 0 (by omega)
  rw [show spec_l08Tables.l1 (k + (s.size + 1) + 1) (d : Int) s (tab a fun a => mat (s.size + 1) (ET s s.size a)) (a : Int) [] 0 = _ from this, wrap_nat _ (by omega), ← tab_succ]
  exact ih k (a + 1) (by omega) (by omega)
theorem itab_l1 (d : Nat) (hd : d ≤ 3) (s : ByteArray) (hs : s.size ≤ 5) (hw : okW d s) : ∀ e k i, i + e = s.size → e < k →
 impl_tablesOf.l1 k s (tab d fun a => mat (s.size + 1) (ET s i a)) (i : Int) = some (tab d fun a => mat (s.size + 1) (ET s s.size a)) := by
 intro e
 induction e with
 | zero =>
  intro k i h hk
  obtain ⟨k, rfl⟩ : ∃ m, k = m + 1 := ⟨k - 1, by omega⟩
  obtain rfl : i = s.size := by omega
  rw [impl_tablesOf.l1, if_neg (by omega)]
 | succ e ih =>
  intro k i h hk
  obtain ⟨k, rfl⟩ : ∃ m, k = m + 1 := ⟨k - 1, by omega⟩
  obtain ⟨h1, h2⟩ := ltr_lt hd hw i (by omega)
  have hw1 : wrap64 ((i : Int) + 1) = ((i + 1 : Nat) : Int) := wrap_nat i (by omega)
  rw [impl_tablesOf.l1, if_pos (by omega), if_pos (by omega), h2, hw1, if_pos (by omega), if_pos (by rw [tab_length]; omega), rdT_tab d _ _ h1, if_pos (by rw [mat_length]; omega), if_pos (by omega), rdR_mat _ _ i (by omega), if_pos (by rw [tab_length]; omega), Int.toNat_natCast, Int.toNat_natCast, Int.toNat_natCast, tab_set, show (mat (s.size + 1) (ET s i (ltr s i))) = tab (s.size + 1) fun p => tab (s.size + 1) (ET s i (ltr s i) p) from rfl, tab_set, tab_set, ← ih k (i + 1) (by omega) (by omega)]
  congr 1
  refine tab_congr fun a ha => ?_
  by_cases e1 : a = ltr s i
  ·rw [if_pos e1, e1]
   unfold mat
   refine tab_congr fun p hp => ?_
   by_cases e2 : p = i
   ·rw [if_pos e2, e2]
    refine tab_congr fun q hq => ?_
    unfold ET
    by_cases e3 : q = i + 1
    ·rw [if_pos e3, if_pos ⟨by omega, rfl, e3⟩]
    ·rw [if_neg e3, if_neg (by omega), if_neg (fun h => e3 h.2.2)]
   ·rw [if_neg e2]
    refine tab_congr fun q hq => ?_
    unfold ET
    by_cases e3 : p < i ∧ ltr s p = ltr s i ∧ q = p + 1
    ·rw [if_pos e3, if_pos ⟨by omega, e3.2⟩]
    ·rw [if_neg e3, if_neg (fun h => e3 ⟨by omega, h.2⟩)]
  ·rw [if_neg e1]
   unfold mat
   refine tab_congr fun p hp => tab_congr fun q hq => ?_
   unfold ET
   by_cases e3 : p < i ∧ ltr s p = a ∧ q = p + 1
   ·rw [if_pos e3, if_pos ⟨by omega, e3.2⟩]
   ·rw [if_neg e3, if_neg (fun h => e3 ⟨?_, h.2⟩)]
    have e4 : p ≠ i := fun e => e1 (by rw [← h.2.1, e])
    omega
theorem itab_l0 (d : Nat) (hd : d ≤ 3) (s : ByteArray) (hs : s.size ≤ 5) (hw : okW d s) : ∀ e k i, i + e = d → e + 20 ≤ k →
 impl_tablesOf.l0 k (d : Int) s (tab i fun _ => mat (s.size + 1) fun _ _ => 0) (i : Int) = some (tab d fun a => mat (s.size + 1) (ET s s.size a)) := by
 intro e
 induction e with
 | zero =>
  intro k i h hk
  obtain ⟨k, rfl⟩ : ∃ m, k = m + 1 := ⟨k - 1, by omega⟩
  obtain rfl : i = d := by omega
  rw [impl_tablesOf.l0, if_neg (by omega), ← itab_l1 i hd s hs hw s.size k 0 (by omega) (by omega)]
  congr 1
 | succ e ih =>
  intro k i h hk
  obtain ⟨k, rfl⟩ : ∃ m, k = m + 1 := ⟨k - 1, by omega⟩
  rw [impl_tablesOf.l0, if_pos (by omega), wrap_nat _ (by omega), square_f k (s.size + 1) (by omega) (by omega), Option.bind_some, if_pos (by rw [tab_length]; omega), wrap_nat _ (by omega), ← tab_succ i (fun _ => mat (s.size + 1) fun _ _ => 0)]
  exact ih k (i + 1) (by omega) (by omega)
def toRes (d : Int) (s : ByteArray) : List (List (List Int)) × Int :=
 if (decide (1 ≤ d) && decide (d ≤ 3)) = true then (if isWd d s s.size 0 = true then (if (s.size : Int) > 5 then ([], 2) else (tab d.toNat fun a => mat (s.size + 1) (ET s s.size a), 0)) else ([], 1)) else ([], 2)
theorem spec_TablesOfWord_f (k : Nat) (d : Int) (s : ByteArray) (hk : 2000000 ≤ k) (hs : s.size ≤ 1048576) : spec_TablesOfWord.f k d s = some (toRes d s) := by
 unfold spec_TablesOfWord.f toRes
 have hi : spec_l01In.f d 1 3 = some (decide (1 ≤ d) && decide (d ≤ 3)) := by
  unfold spec_l01In.f
  by_cases h : 1 ≤ d <;> simp [h]
 rw [hi, Option.bind_some]
 by_cases h : (decide (1 ≤ d) && decide (d ≤ 3)) = true
 ·rw [if_pos h, if_pos h]
  simp only [Bool.and_eq_true, decide_eq_true_eq] at h
  rw [spec_l01Word_f k d h.1 h.2 s hs (by omega), Option.bind_some]
  by_cases hw : isWd d s s.size 0 = true
  ·rw [if_pos hw, if_pos hw]
   by_cases h5 : (s.size : Int) > 5
   ·rw [if_pos h5, if_pos h5]
   ·rw [if_neg h5, if_neg h5]
    have hd : (d.toNat : Int) = d := by omega
    have := stab_l0 d.toNat (by omega) s (by omega) (wd_okW hd hw) d.toNat k 0 (by omega) (by omega)
    rw [hd] at this
    rw [show spec_l08Tables.f k d s = _ from this, Option.bind_some]
  ·rw [if_neg hw, if_neg hw]
 ·rw [if_neg h, if_neg h]
theorem impl_TablesOfWord_f (k : Nat) (d : Int) (s : ByteArray) (hk : 2000000 ≤ k) (hs : s.size ≤ 1048576) : impl_TablesOfWord.f k d s = some (toRes d s) := by
 unfold impl_TablesOfWord.f toRes
 have hi : impl_areLetters.f d = some (decide (1 ≤ d) && decide (d ≤ 3)) := by
  unfold impl_areLetters.f impl_within.f
  by_cases h : 1 ≤ d <;> simp [h]
 rw [hi, Option.bind_some]
 by_cases h : (decide (1 ≤ d) && decide (d ≤ 3)) = true
 ·rw [if_pos h, if_pos h]
  simp only [Bool.and_eq_true, decide_eq_true_eq] at h
  rw [impl_isWord_f k d h.1 h.2 s hs (by omega), Option.bind_some]
  by_cases hw : isWd d s s.size 0 = true
  ·rw [if_pos hw, if_pos hw]
   by_cases h5 : (s.size : Int) > 5
   ·rw [if_pos h5, if_pos h5]
   ·rw [if_neg h5, if_neg h5]
    have hd : (d.toNat : Int) = d := by omega
    have := itab_l0 d.toNat (by omega) s (by omega) (wd_okW hd hw) d.toNat k 0 (by omega) (by omega)
    rw [hd] at this
    rw [show impl_tablesOf.f k d s = _ from this, Option.bind_some]
  ·rw [if_neg hw, if_neg hw]
 ·rw [if_neg h, if_neg h]

end Go.Proofs.Ytkbneilobaehkaa.Pure
