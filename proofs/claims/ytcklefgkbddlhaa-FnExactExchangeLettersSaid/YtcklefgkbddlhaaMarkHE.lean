/- The marks of terms: the texts, and what laws.heldSeries says of them. -/
import Derived.Test.YtcklefgkbddlhaaPx4
import Derived.Test.YtcklefgkbddlhaaMarkTE
namespace Go.Proofs.Ytcklefgkbddlhaa.Tab
open Go.RowKit Go.Proofs.Ytcklefgkbddlhaa.P Go.Proofs.YtcklefgkbddlhaaW.PrintWords Go.Proofs.YtcklefgkbddlhaaW.PrintLast Go.Proofs.YtcklefgkbddlhaaW.PrintMore Go.Proofs.Ytcklefgkbddlhaa.Pure
set_option linter.unusedVariables false
set_option linter.unusedSimpArgs false

theorem heldTermS_l0 (n : Nat) (m : Int) (hn : n ≤ 1000) (h0 : 0 ≤ m) (hm : m ≤ 9000000) : ∀ d k (i : Nat), i + d = n → d + 100 < k → laws_heldTermS.l0 k (tmarks m n) (m + 3 * i) (i : Int) = some (m + 3 * n)
  | 0, 0, i, h, hk => by omega
  | d + 1, 0, i, h, hk => by omega
  | 0, k + 1, i, h, hk => by
    unfold laws_heldTermS.l0
    rw [tmarks_length, if_neg (by omega)]
    congr 1
    omega
  | d + 1, k + 1, i, h, hk => by
    unfold laws_heldTermS.l0
    rw [tmarks_length, if_pos (by omega), if_pos (by omega), mt_f _ (by omega) k (by omega), Option.bind_some, tmarks_get n m i (by omega)]
    dsimp only
    rw [if_pos rfl, wrap_of (m + 3 * (i : Int) + 1) (by omega) (by omega), if_pos rfl, wrap_of (m + 3 * (i : Int) + 1 + 1) (by omega) (by omega), if_pos (show m + 3 * (i : Int) + 2 = m + 3 * (i : Int) + 1 + 1 by omega), wrap_of (m + 3 * (i : Int) + 1 + 1 + 1) (by omega) (by omega), wrap_of ((i : Int) + 1) (by omega) (by omega)]
    have := heldTermS_l0 n m hn h0 hm d k (i + 1) (by omega) (by omega)
    rw [show m + 3 * (i : Int) + 1 + 1 + 1 = m + 3 * ((i + 1 : Nat) : Int) by omega, show (i : Int) + 1 = ((i + 1 : Nat) : Int) by omega]
    exact this
theorem heldSeries_f (k : Nat) (d n' : Int) (n : Nat) (m : Int) (hn : n ≤ 1000) (h0 : 0 ≤ m) (hm : m ≤ 9000000) (hk : n + 100 < k) : laws_heldSeries.f k d n' (tmarks m n) m = some (m + 3 * n) := by
  unfold laws_heldSeries.f laws_heldTermS.f
  have := heldTermS_l0 n m hn h0 hm n k 0 (by omega) hk
  rw [show m + 3 * ((0 : Nat) : Int) = m by omega] at this
  rw [show ((0 : Nat) : Int) = 0 from rfl] at this
  rw [this, Option.bind_some, if_neg (by omega)]
end Go.Proofs.Ytcklefgkbddlhaa.Tab
