/- Plain lemmas on rows of rows of whole numbers: equality, marks. -/
import Derived.Test.YtbpipmkgclkhgaaPx1
import Derived.Test.YtbpipmkgclkhgaaPx2
import Derived.Test.YtbpipmkgclkhgaaNest3
import Derived.Test.YtbpipmkgclkhgaaBaseRows
namespace Go.Proofs.Ytbpipmkgclkhgaa.Pure
open Go.RowKit Go.Proofs.Ytbpipmkgclkhgaa.P Go.Proofs.Ytbpipmkgclkhgaa.Nest Go.Proofs.YtbpipmkgclkhgaaW.PrintWords Go.Proofs.YtbpipmkgclkhgaaW.PrintLast
set_option linter.unusedVariables false
set_option linter.unusedSimpArgs false

theorem rd3_nat (l : List (List (List Int))) (i : Nat) (h : i < l.length) : rd_L2 l (i : Int) = l[i] := by simp [rd_L2, List.getD_eq_getElem?_getD, h]
theorem total3_mem {l : List (List (List Int))} {x : List (List Int)} (h : x ∈ l) : total x ≤ total3 l := by
  induction l with
  | nil => cases h
  | cons a l ih =>
    rcases List.mem_cons.1 h with h | h
    · subst h; simp only [total3]; omega
    · have := ih h; simp only [total3]; omega
theorem eqInt64SSS_l03 (l : List (List (List Int))) (hl : l.length ≤ 1000) (ht : total3 l ≤ 10000) (hx : ∀ x ∈ l, x.length ≤ 1000) : ∀ d k i, i + d = l.length → d + 20000 < k → laws_eqInt64SSS.l0 k l l (i : Int) = some true := by
  intro d
  induction d with
  | zero =>
    intro k i h hk
    obtain ⟨k, rfl⟩ : ∃ m, k = m + 1 := ⟨k - 1, by omega⟩
    simp only [laws_eqInt64SSS.l0]
    rw [if_neg (by omega)]
  | succ d ih =>
    intro k i h hk
    obtain ⟨k, rfl⟩ : ∃ m, k = m + 1 := ⟨k - 1, by omega⟩
    have hi : i < l.length := by omega
    have hm := total3_mem (List.getElem_mem hi)
    have hq := hx l[i] (List.getElem_mem hi)
    simp only [laws_eqInt64SSS.l0]
    rw [if_pos (by omega), if_pos (by omega), if_pos (by omega), rd3_nat l i hi, eqInt64SS_f k l[i] (by omega) (by omega) (by omega), Option.bind_some, if_pos rfl, wrap_nat _ (by omega), ih k (i + 1) (by omega) (by omega)]
theorem eqInt64SSS_f3 (k : Nat) (l : List (List (List Int))) (hl : l.length ≤ 1000) (ht : total3 l ≤ 10000) (hx : ∀ x ∈ l, x.length ≤ 1000) (hk : 30000 < k) : laws_eqInt64SSS.f k l l = some true := by
  unfold laws_eqInt64SSS.f
  rw [if_pos rfl]
  exact eqInt64SSS_l03 l hl ht hx l.length k 0 (by omega) (by omega)
theorem heldInt64SSS_l03 : ∀ (q : List (List (List Int))) k i (p : List (List (List Int))) (m : Int), p.length = i → i + q.length ≤ 1000 → total3 q ≤ 10000 → (∀ x ∈ q, x.length ≤ 1000) → q.length + 20000 < k → 0 ≤ m → m + total3 q ≤ 1000000 → laws_heldInt64SSS.l0 k (p ++ marks3 m q) m (i : Int) = some (m + total3 q) := by
  intro q
  induction q with
  | nil =>
    intro k i p m h hl ht hx hk h0 h1
    obtain ⟨k, rfl⟩ : ∃ m, k = m + 1 := ⟨k - 1, by omega⟩
    simp only [laws_heldInt64SSS.l0, marks3, List.append_nil]
    rw [if_neg (by omega)]
    simp [total3]
  | cons r q ih =>
    intro k i p m h hl ht hx hk h0 h1
    simp only [List.length_cons, total3] at hk hl ht h1
    obtain ⟨k, rfl⟩ : ∃ m, k = m + 1 := ⟨k - 1, by omega⟩
    have hlen : (p ++ marks3 m (r :: q)).length = i + (q.length + 1) := by simp [marks3_length, h]
    have hrd : rd_L2 (p ++ marks3 m (r :: q)) (i : Int) = marks2 m r := by
      rw [rd3_nat _ i (by omega), List.getElem_append_right (by omega)]
      simp [h, marks3]
    have hr := hx r List.mem_cons_self
    simp only [laws_heldInt64SSS.l0]
    rw [if_pos (by omega), if_pos (by omega), hrd, heldInt64SS_f k r m (by omega) (by omega) (by omega) h0 (by omega), Option.bind_some, if_neg (by omega), wrap_nat _ (by omega)]
    have := ih k (i + 1) (p ++ [marks2 m r]) (m + total r) (by simp [h]) (by omega) (by omega) (fun x hx' => hx x (List.mem_cons_of_mem _ hx')) (by omega) (by omega) (by omega)
    rw [List.append_assoc] at this
    simp only [List.singleton_append] at this
    simp only [marks3]
    rw [this]
    congr 1
    simp only [total3]
    omega
theorem heldInt64SSS_f3 (k : Nat) (l : List (List (List Int))) (m : Int) (hl : l.length ≤ 1000) (ht : total3 l ≤ 10000) (hx : ∀ x ∈ l, x.length ≤ 1000) (hk : 30000 < k) (h0 : 0 ≤ m) (h1 : m ≤ 1000) : laws_heldInt64SSS.f k (marks3 m l) m = some (m + total3 l) := by
  unfold laws_heldInt64SSS.f
  have := heldInt64SSS_l03 l k 0 [] m rfl (by omega) ht hx (by omega) h0 (by omega)
  simpa using this

end Go.Proofs.Ytbpipmkgclkhgaa.Pure
