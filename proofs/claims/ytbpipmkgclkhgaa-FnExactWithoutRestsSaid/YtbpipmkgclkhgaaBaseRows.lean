/- Plain lemmas on lists of lists of whole numbers: equality, marks. -/
import Derived.Test.YtbpipmkgclkhgaaPx1
import Derived.Test.YtbpipmkgclkhgaaNest
namespace Go.Proofs.Ytbpipmkgclkhgaa.Pure
open Go.RowKit Go.Proofs.Ytbpipmkgclkhgaa.P Go.Proofs.Ytbpipmkgclkhgaa.Nest Go.Proofs.YtbpipmkgclkhgaaW.PrintWords Go.Proofs.YtbpipmkgclkhgaaW.PrintLast
set_option linter.unusedVariables false
set_option linter.unusedSimpArgs false

theorem rd2_nat (l : List (List Int)) (i : Nat) (h : i < l.length) : rd_L1 l (i : Int) = l[i] := by simp [rd_L1, List.getD_eq_getElem?_getD, h]
theorem total_mem {l : List (List Int)} {r : List Int} (h : r ∈ l) : r.length ≤ total l := by
  induction l with
  | nil => cases h
  | cons a l ih =>
    simp only [total]
    rcases List.mem_cons.1 h with h | h
    · subst h; omega
    · have := ih h; omega
theorem eqInt64SS_l0 (l : List (List Int)) (hl : l.length ≤ 1000000) (ht : total l ≤ 1000000) : ∀ d k i, i + d = l.length → d + total l < k → laws_eqInt64SS.l0 k l l (i : Int) = some true := by
  intro d
  induction d with
  | zero =>
    intro k i h hk
    obtain ⟨k, rfl⟩ : ∃ m, k = m + 1 := ⟨k - 1, by omega⟩
    simp only [laws_eqInt64SS.l0]
    rw [if_neg (by omega)]
  | succ d ih =>
    intro k i h hk
    obtain ⟨k, rfl⟩ : ∃ m, k = m + 1 := ⟨k - 1, by omega⟩
    have hm := total_mem (List.getElem_mem (show i < l.length by omega))
    simp only [laws_eqInt64SS.l0]
    rw [if_pos (by omega), if_pos (by omega), if_pos (by omega), rd2_nat l i (by omega), eqInt64S_f k l[i] (by omega) (by omega), Option.bind_some, if_pos rfl, wrap_nat _ (by omega), ih k (i + 1) (by omega) (by omega)]
theorem eqInt64SS_f (k : Nat) (l : List (List Int)) (hl : l.length ≤ 1000000) (ht : total l ≤ 1000000) (hk : l.length + total l < k) : laws_eqInt64SS.f k l l = some true := by
  unfold laws_eqInt64SS.f
  rw [if_pos rfl]
  exact eqInt64SS_l0 l hl ht l.length k 0 (by omega) hk
theorem heldInt64SS_l0 : ∀ (q : List (List Int)) k i (p : List (List Int)) (m : Int), p.length = i → i + q.length ≤ 1000000 → total q ≤ 1000000 → q.length + total q < k → 0 ≤ m → m + total q ≤ 100000000 → laws_heldInt64SS.l0 k (p ++ marks2 m q) m (i : Int) = some (m + total q) := by
  intro q
  induction q with
  | nil =>
    intro k i p m h hl ht hk h0 h1
    simp only [List.length_nil, total] at hk
    obtain ⟨k, rfl⟩ : ∃ m, k = m + 1 := ⟨k - 1, by omega⟩
    simp only [laws_heldInt64SS.l0, marks2, List.append_nil]
    rw [if_neg (by omega)]
    simp [total]
  | cons r q ih =>
    intro k i p m h hl ht hk h0 h1
    simp only [List.length_cons, total] at hk hl ht h1
    obtain ⟨k, rfl⟩ : ∃ m, k = m + 1 := ⟨k - 1, by omega⟩
    have hlen : (p ++ marks2 m (r :: q)).length = i + (q.length + 1) := by simp [marks2_length, h]
    have hrd : rd_L1 (p ++ marks2 m (r :: q)) (i : Int) = marks m r.length := by
      rw [rd2_nat _ i (by omega), List.getElem_append_right (by omega)]
      simp [h, marks2]
    simp only [laws_heldInt64SS.l0]
    rw [if_pos (by omega), if_pos (by omega), hrd, heldInt64S_f k m r.length (by omega) (by omega) h0 (by omega), Option.bind_some, if_neg (by omega), wrap_nat _ (by omega)]
    have := ih k (i + 1) (p ++ [marks m r.length]) (m + r.length) (by simp [h]) (by omega) (by omega) (by omega) (by omega) (by omega)
    rw [List.append_assoc] at this
    simp only [List.singleton_append] at this
    simp only [marks2]
    rw [this]
    congr 1
    simp only [total]
    omega
theorem heldInt64SS_f (k : Nat) (l : List (List Int)) (m : Int) (hl : l.length ≤ 1000000) (ht : total l ≤ 1000000) (hk : l.length + total l < k) (h0 : 0 ≤ m) (h1 : m ≤ 50000000) : laws_heldInt64SS.f k (marks2 m l) m = some (m + total l) := by
  unfold laws_heldInt64SS.f
  have := heldInt64SS_l0 l k 0 [] m rfl (by omega) ht hk h0 (by omega)
  simpa using this

end Go.Proofs.Ytbpipmkgclkhgaa.Pure
