/- Plain lemmas on sums of lists and on ends of paths. -/
import Derived.Test.YtmgkalljgglabaaPx12
import Derived.Test.YtmgkalljgglabaaBaseInts
namespace Go.Proofs.Ytmgkalljgglabaa.Pure
open Go.RowKit Go.Proofs.Ytmgkalljgglabaa.P Go.Proofs.YtmgkalljgglabaaW.PrintWords Go.Proofs.YtmgkalljgglabaaW.PrintLast
set_option linter.unusedVariables false
set_option linter.unusedSimpArgs false

/-- Sums, place by place. -/
def addL : List Int → List Int → List Int
  | [], _ => []
  | a :: x, [] => a :: x
  | a :: x, b :: y => wrap64 (a + b) :: addL x y
theorem addL_nil (a : List Int) : addL a [] = a := by cases a <;> rfl
theorem addL_length : ∀ (a b : List Int), (addL a b).length = a.length
  | [], [] => rfl
  | [], _ :: _ => rfl
  | _ :: _, [] => rfl
  | a :: x, b :: y => by simp [addL, addL_length x y]
theorem impl_added_l0 (b : List Int) (hl : b.length ≤ 1000000) : ∀ d k i (p q : List Int), i + d = b.length → d < k → p.length = i → d ≤ q.length → impl_added.l0 k (p ++ q) b (b.length : Int) (i : Int) = some (p ++ addL q (b.drop i)) := by
  intro d
  induction d with
  | zero =>
    intro k i p q h hk hp hq
    obtain ⟨k, rfl⟩ : ∃ m, k = m + 1 := ⟨k - 1, by omega⟩
    simp only [impl_added.l0]
    rw [if_neg (by omega), List.drop_of_length_le (by omega), addL_nil]
  | succ d ih =>
    intro k i p q h hk hp hq
    obtain ⟨k, rfl⟩ : ∃ m, k = m + 1 := ⟨k - 1, by omega⟩
    obtain ⟨a, q, rfl⟩ : ∃ a q', q = a :: q' := by cases q with | nil => simp at hq | cons a q => exact ⟨a, q, rfl⟩
    have hlen : (p ++ a :: q).length = i + (q.length + 1) := by simp [hp]
    have hrd : rd (p ++ a :: q) (i : Int) = a := by
      rw [rd_nat _ i (by omega), List.getElem_append_right (by omega)]
      simp [hp]
    have hset : ∀ v, (p ++ a :: q).set i v = (p ++ [v]) ++ q := by
      intro v
      rw [List.set_append_right _ _ (by omega), show i - p.length = 0 by omega]
      simp
    simp only [impl_added.l0]
    rw [if_pos (by omega), if_pos (by omega), if_pos (by omega), if_pos (by omega), wrap_nat _ (by omega), hrd, rd_nat b i (by omega), Int.toNat_natCast, hset, ih k (i + 1) _ _ (by omega) (by omega) (by simp [hp]) (by simpa using hq), List.drop_eq_getElem_cons (show i < b.length by omega)]
    simp only [addL, List.append_assoc, List.singleton_append]
theorem impl_added_f (k : Nat) (a b : List Int) (hl : a.length ≤ 1000000) (hab : b.length ≤ a.length) (hk : b.length < k) : impl_added.f k a b = some (addL a b) := by
  unfold impl_added.f slices_Clone_int64_int64.f
  rw [if_pos (by omega), Option.bind_some]
  have := impl_added_l0 b (by omega) b.length k 0 [] a (by omega) hk rfl hab
  simpa using this

end Go.Proofs.Ytmgkalljgglabaa.Pure
