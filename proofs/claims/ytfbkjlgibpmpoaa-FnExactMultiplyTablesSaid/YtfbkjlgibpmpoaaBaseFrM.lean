/- Plain lemmas on rows of fractions: marks, equality. -/
import Derived.Test.YtfbkjlgibpmpoaaPx11
import Derived.Test.YtfbkjlgibpmpoaaPx10
import Derived.Test.YtfbkjlgibpmpoaaBaseCopies0
namespace Go.Proofs.Ytfbkjlgibpmpoaa.Pure
open Go.RowKit Go.Proofs.Ytfbkjlgibpmpoaa.P Go.Proofs.YtfbkjlgibpmpoaaW.PrintWords Go.Proofs.YtfbkjlgibpmpoaaW.PrintLast
set_option linter.unusedVariables false
set_option linter.unusedSimpArgs false

theorem rdF_nat (l : List S79) (i : Nat) (h : i < l.length) : rd_T79 l (i : Int) = l[i] := by simp [rd_T79, List.getD_eq_getElem?_getD, h]
theorem rdFF_nat (l : List (List S79)) (i : Nat) (h : i < l.length) : rd_L4 l (i : Int) = l[i] := by simp [rd_L4, List.getD_eq_getElem?_getD, h]
/-- How many fractions rows hold. -/
def totF : List (List S79) → Nat
  | [] => 0
  | r :: l => r.length + totF l
/-- The marks of n fractions from m on. -/
def fmarks (m : Int) : Nat → List S79
  | 0 => []
  | n + 1 => ⟨m, m + 1⟩ :: fmarks (m + 2) n
theorem fmarks_length : ∀ (n : Nat) (m : Int), (fmarks m n).length = n
  | 0, _ => rfl
  | n + 1, m => by simp [fmarks, fmarks_length n]
/-- The marks of rows from m on. -/
def fmarks2 (m : Int) : List (List S79) → List (List S79)
  | [] => []
  | r :: l => fmarks m r.length :: fmarks2 (m + 2 * r.length) l
theorem fmarks2_length (l : List (List S79)) : ∀ m, (fmarks2 m l).length = l.length := by
  induction l with
  | nil => intro m; rfl
  | cons r l ih => intro m; simp [fmarks2, ih]
theorem totF_append (a b : List (List S79)) : totF (a ++ b) = totF a + totF b := by
  induction a with
  | nil => simp [totF]
  | cons r a ih => simp only [List.cons_append, totF, ih]; omega
theorem fmarks2_append (a b : List (List S79)) : ∀ m, fmarks2 m (a ++ b) = fmarks2 m a ++ fmarks2 (m + 2 * totF a) b := by
  induction a with
  | nil => intro m; simp [fmarks2, totF]
  | cons r a ih => intro m; simp only [List.cons_append, fmarks2, ih, totF]; rw [show m + 2 * (r.length : Int) + 2 * (totF a : Int) = m + 2 * ((r.length + totF a : Nat) : Int) by omega]
theorem fmarks2_snoc (m : Int) (a : List (List S79)) (r : List S79) : fmarks2 m (a ++ [r]) = fmarks2 m a ++ [fmarks (m + 2 * totF a) r.length] := by
  rw [fmarks2_append]; rfl
theorem take_totF_le (l : List (List S79)) (i : Nat) : totF (l.take i) ≤ totF l := by
  have := totF_append (l.take i) (l.drop i)
  rw [List.take_append_drop] at this
  omega
theorem totF_take_succ (l : List (List S79)) (i : Nat) (h : i < l.length) : totF (l.take (i + 1)) = totF (l.take i) + l[i].length := by
  rw [List.take_succ_eq_append_getElem h, totF_append]
  simp [totF]
theorem set_midF {α : Type} (a l : List α) (i : Nat) (x : α) (ha : a.length = i) (hi : i < l.length) : (a ++ l.drop i).set i x = (a ++ [x]) ++ l.drop (i + 1) := by
  rw [List.set_append_right _ _ (by omega), List.drop_eq_getElem_cons hi, show i - a.length = 0 by omega, List.set_cons_zero, List.append_assoc]
  rfl
theorem markFractionS_l0 : ∀ d k i (x : List S79) (m : Int), i + d = x.length → x.length ≤ 4000000 → d < k → 0 ≤ m → m + 2 * d ≤ 1000000000 → laws_markFractionS.l0 k x m (i : Int) = some (m + 2 * d, x.take i ++ fmarks m d) := by
  intro d
  induction d with
  | zero =>
    intro k i x m h hl hk h0 h1
    obtain ⟨k, rfl⟩ : ∃ m, k = m + 1 := ⟨k - 1, by omega⟩
    simp only [laws_markFractionS.l0]
    rw [if_neg (by omega), List.take_of_length_le (by omega)]
    simp [fmarks]
  | succ d ih =>
    intro k i x m h hl hk h0 h1
    obtain ⟨k, rfl⟩ : ∃ m, k = m + 1 := ⟨k - 1, by omega⟩
    simp only [laws_markFractionS.l0]
    rw [if_pos (by omega), if_pos (by omega), Option.bind_some, wrap_of (m + 1) (by omega) (by omega), wrap_of (m + 1 + 1) (by omega) (by omega), wrap_nat _ (by omega), Int.toNat_natCast]
    have e1 : rd_T79 (x.set i ⟨m, (rd_T79 x (i : Int)).f1⟩) (i : Int) = ⟨m, (rd_T79 x (i : Int)).f1⟩ := by
      rw [rdF_nat _ _ (by simp; omega)]
      simp
    rw [e1, List.set_set, ih k (i + 1) _ (m + 1 + 1) (by simp; omega) (by simpa using hl) (by omega) (by omega) (by omega)]
    have e2 : (x.set i (⟨m, m + 1⟩ : S79)).take (i + 1) = x.take i ++ [⟨m, m + 1⟩] := by
      rw [List.take_succ_eq_append_getElem (by simp; omega)]
      simp [List.take_set_of_le]
    rw [e2, List.append_assoc]
    simp only [fmarks, List.singleton_append]
    rw [show m + 1 + 1 = m + 2 by omega, show m + 2 + 2 * (d : Int) = m + 2 * ((d + 1 : Nat) : Int) by omega]
theorem markFractionS_f (k : Nat) (x : List S79) (m : Int) (hl : x.length ≤ 4000000) (hk : x.length < k) (h0 : 0 ≤ m) (h1 : m ≤ 100000000) : laws_markFractionS.f k x m = some (m + 2 * x.length, fmarks m x.length) := by
  unfold laws_markFractionS.f
  have := markFractionS_l0 x.length k 0 x m (by omega) hl hk h0 (by omega)
  simpa using this
theorem heldFractionS_l0 : ∀ d k i (p : List S79) (m : Int), p.length = i → i + d ≤ 4000000 → d < k → 0 ≤ m → m + 2 * d ≤ 4000000000 → laws_heldFractionS.l0 k (p ++ fmarks m d) m (i : Int) = some (m + 2 * d) := by
  intro d
  induction d with
  | zero =>
    intro k i p m h hl hk h0 h1
    obtain ⟨k, rfl⟩ : ∃ m, k = m + 1 := ⟨k - 1, by omega⟩
    simp only [laws_heldFractionS.l0, fmarks, List.append_nil]
    rw [if_neg (by omega)]
    simp
  | succ d ih =>
    intro k i p m h hl hk h0 h1
    obtain ⟨k, rfl⟩ : ∃ m, k = m + 1 := ⟨k - 1, by omega⟩
    have hlen : (p ++ fmarks m (d + 1)).length = i + (d + 1) := by simp [fmarks_length, h]
    have hrd : rd_T79 (p ++ fmarks m (d + 1)) (i : Int) = ⟨m, m + 1⟩ := by
      rw [rdF_nat _ i (by omega), List.getElem_append_right (by omega)]
      simp [h, fmarks]
    simp only [laws_heldFractionS.l0]
    rw [if_pos (by omega), if_pos (by omega), hrd]
    dsimp only
    rw [if_pos rfl, wrap_of (m + 1) (by omega) (by omega), if_pos rfl, wrap_of (m + 1 + 1) (by omega) (by omega), wrap_nat _ (by omega)]
    have := ih k (i + 1) (p ++ [⟨m, m + 1⟩]) (m + 2) (by simp [h]) (by omega) (by omega) (by omega) (by omega)
    rw [List.append_assoc] at this
    simp only [List.singleton_append] at this
    simp only [fmarks]
    rw [show m + 1 + 1 = m + 2 by omega, this]
    congr 1
    omega
theorem heldFractionS_f (k : Nat) (m : Int) (n : Nat) (hl : n ≤ 4000000) (hk : n < k) (h0 : 0 ≤ m) (h1 : m ≤ 1000000000) : laws_heldFractionS.f k (fmarks m n) m = some (m + 2 * n) := by
  unfold laws_heldFractionS.f
  have := heldFractionS_l0 n k 0 [] m rfl (by omega) hk h0 (by omega)
  simpa using this
theorem heldFractionSS_l0 : ∀ (q : List (List S79)) k i (p : List (List S79)) (m : Int), p.length = i → i + q.length ≤ 1000000 → totF q ≤ 1000000 → q.length + totF q < k → 0 ≤ m → m + 2 * totF q ≤ 100000000 → laws_heldFractionSS.l0 k (p ++ fmarks2 m q) m (i : Int) = some (m + 2 * totF q) := by
  intro q
  induction q with
  | nil =>
    intro k i p m h hl ht hk h0 h1
    obtain ⟨k, rfl⟩ : ∃ m, k = m + 1 := ⟨k - 1, by omega⟩
    simp only [laws_heldFractionSS.l0, fmarks2, List.append_nil]
    rw [if_neg (by omega)]
    simp [totF]
  | cons r q ih =>
    intro k i p m h hl ht hk h0 h1
    simp only [totF, List.length_cons] at hl ht hk h1
    obtain ⟨k, rfl⟩ : ∃ m, k = m + 1 := ⟨k - 1, by omega⟩
    have hlen : (p ++ fmarks2 m (r :: q)).length = i + (q.length + 1) := by simp [fmarks2_length, h]
    have hrd : rd_L4 (p ++ fmarks2 m (r :: q)) (i : Int) = fmarks m r.length := by
      rw [rdFF_nat _ i (by omega), List.getElem_append_right (by omega)]
      simp [h, fmarks2]
    simp only [laws_heldFractionSS.l0]
    rw [if_pos (by omega), if_pos (by omega), hrd, heldFractionS_f k m r.length (by omega) (by omega) h0 (by omega), Option.bind_some, if_neg (by omega), wrap_nat _ (by omega)]
    have := ih k (i + 1) (p ++ [fmarks m r.length]) (m + 2 * r.length) (by simp [h]) (by omega) (by omega) (by omega) (by omega) (by omega)
    rw [List.append_assoc] at this
    simp only [List.singleton_append] at this
    simp only [fmarks2, totF]
    rw [this]
    congr 1
    omega
theorem heldFractionSS_f (k : Nat) (l : List (List S79)) (m : Int) (hl : l.length ≤ 1000000) (ht : totF l ≤ 1000000) (hk : l.length + totF l < k) (h0 : 0 ≤ m) (h1 : m ≤ 50000000) : laws_heldFractionSS.f k (fmarks2 m l) m = some (m + 2 * totF l) := by
  unfold laws_heldFractionSS.f
  have := heldFractionSS_l0 l k 0 [] m rfl (by omega) ht hk h0 (by omega)
  simpa using this
theorem eqFractionS_l0 (l : List S79) (hl : l.length ≤ 4000000) : ∀ d k i, i + d = l.length → d < k → laws_eqFractionS.l0 k l l (i : Int) = some true := by
  intro d
  induction d with
  | zero =>
    intro k i h hk
    obtain ⟨k, rfl⟩ : ∃ m, k = m + 1 := ⟨k - 1, by omega⟩
    simp only [laws_eqFractionS.l0]
    rw [if_neg (by omega)]
  | succ d ih =>
    intro k i h hk
    obtain ⟨k, rfl⟩ : ∃ m, k = m + 1 := ⟨k - 1, by omega⟩
    simp only [laws_eqFractionS.l0]
    unfold laws_eqFraction.f
    rw [if_pos (by omega), if_pos (by omega), if_pos (by omega), if_pos rfl, if_pos rfl, Option.bind_some, if_pos rfl, wrap_nat _ (by omega), ih k (i + 1) (by omega) (by omega)]
theorem eqFractionS_f (k : Nat) (l : List S79) (hl : l.length ≤ 4000000) (hk : l.length < k) : laws_eqFractionS.f k l l = some true := by
  unfold laws_eqFractionS.f
  rw [if_pos rfl]
  have := eqFractionS_l0 l hl l.length k 0 (by omega) hk
  simpa using this
theorem totF_mem {l : List (List S79)} {r : List S79} (h : r ∈ l) : r.length ≤ totF l := by
  induction l with
  | nil => cases h
  | cons x l ih =>
    simp only [totF]
    rcases List.mem_cons.1 h with rfl | h
    · omega
    · have := ih h; omega
theorem eqFractionSS_l0 (l : List (List S79)) (hl : l.length ≤ 2000000) (ht : totF l ≤ 2000000) : ∀ d k i, i + d = l.length → d + totF l < k → laws_eqFractionSS.l0 k l l (i : Int) = some true := by
  intro d
  induction d with
  | zero =>
    intro k i h hk
    obtain ⟨k, rfl⟩ : ∃ m, k = m + 1 := ⟨k - 1, by omega⟩
    simp only [laws_eqFractionSS.l0]
    rw [if_neg (by omega)]
  | succ d ih =>
    intro k i h hk
    obtain ⟨k, rfl⟩ : ∃ m, k = m + 1 := ⟨k - 1, by omega⟩
    have hm := totF_mem (List.getElem_mem (show i < l.length by omega))
    simp only [laws_eqFractionSS.l0]
    rw [if_pos (by omega), if_pos (by omega), if_pos (by omega), rdFF_nat l i (by omega), eqFractionS_f k _ (by omega) (by omega), Option.bind_some, if_pos rfl, wrap_nat _ (by omega), ih k (i + 1) (by omega) (by omega)]
theorem eqFractionSS_f (k : Nat) (l : List (List S79)) (hl : l.length ≤ 2000000) (ht : totF l ≤ 2000000) (hk : l.length + totF l < k) : laws_eqFractionSS.f k l l = some true := by
  unfold laws_eqFractionSS.f
  rw [if_pos rfl]
  have := eqFractionSS_l0 l hl ht l.length k 0 (by omega) hk
  simpa using this
end Go.Proofs.Ytfbkjlgibpmpoaa.Pure
