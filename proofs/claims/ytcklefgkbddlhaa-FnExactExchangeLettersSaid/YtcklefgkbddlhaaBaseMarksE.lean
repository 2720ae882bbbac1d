/- Plain lemmas on what the printed functions over lists of whole numbers compute. -/
import Derived.Test.YtcklefgkbddlhaaPx3
import Derived.Test.YtcklefgkbddlhaaBaseCopiesV
namespace Go.Proofs.Ytcklefgkbddlhaa.Pure
open Go.RowKit Go.Proofs.Ytcklefgkbddlhaa.P Go.Proofs.YtcklefgkbddlhaaW.PrintWords Go.Proofs.YtcklefgkbddlhaaW.PrintLast
set_option linter.unusedVariables false
set_option linter.unusedSimpArgs false

/-- The marks from m on, n of them. -/
def marks (m : Int) : Nat → List Int
  | 0 => []
  | n + 1 => m :: marks (m + 1) n
theorem marks_length (n : Nat) : ∀ m, (marks m n).length = n := by
  induction n with
  | zero => intro m; rfl
  | succ n ih => intro m; simp [marks, ih]
theorem markInt64S_l0 : ∀ d k i (x : List Int) (m : Int), i + d = x.length → x.length ≤ 4000000 → d < k → 0 ≤ m → m ≤ 1000000000 → laws_markInt64S.l0 k x (m + i) (i : Int) = some (m + x.length, x.take i ++ marks (m + i) d) := by
  intro d
  induction d with
  | zero =>
    intro k i x m h hl hk h0 h1
    obtain ⟨k, rfl⟩ : ∃ m, k = m + 1 := ⟨k - 1, by omega⟩
    simp only [laws_markInt64S.l0]
    rw [if_neg (by omega), List.take_of_length_le (by omega)]
    simp only [marks, List.append_nil]
    rw [show i = x.length by omega]
  | succ d ih =>
    intro k i x m h hl hk h0 h1
    obtain ⟨k, rfl⟩ : ∃ m, k = m + 1 := ⟨k - 1, by omega⟩
    simp only [laws_markInt64S.l0]
    rw [if_pos (by omega), if_pos (by omega), wrap_nat _ (by omega), wrap_of (m + i + 1) (by omega) (by omega), show m + (i : Int) + 1 = m + ((i + 1 : Nat) : Int) by omega, Int.toNat_natCast]
    rw [ih k (i + 1) (x.set i (m + i)) m (by simp; omega) (by simpa using hl) (by omega) h0 h1, take_set x i _ (by omega), List.length_set, List.append_assoc]
    simp only [marks, List.singleton_append]
    rw [show m + (i : Int) + 1 = m + ((i + 1 : Nat) : Int) by omega]
theorem markInt64S_f (k : Nat) (x : List Int) (m : Int) (hl : x.length ≤ 4000000) (hk : x.length < k) (h0 : 0 ≤ m) (h1 : m ≤ 1000000000) : laws_markInt64S.f k x m = some (m + x.length, marks m x.length) := by
  unfold laws_markInt64S.f
  have := markInt64S_l0 x.length k 0 x m (by omega) hl hk h0 h1
  simpa using this
end Go.Proofs.Ytcklefgkbddlhaa.Pure
