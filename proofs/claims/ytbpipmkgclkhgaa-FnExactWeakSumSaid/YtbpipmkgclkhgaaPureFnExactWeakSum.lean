/- For every number of letters, every sequence and every word the program's WeakSum returns what the reference's returns. -/
import Derived.Test.YtbpipmkgclkhgaaPx17
import Derived.Test.YtbpipmkgclkhgaaPx16
import Derived.Test.YtbpipmkgclkhgaaBaseSums
namespace Go.Proofs.Ytbpipmkgclkhgaa.Pure
open Go.RowKit Go.Proofs.Ytbpipmkgclkhgaa.P Go.Proofs.YtbpipmkgclkhgaaW.PrintWords Go.Proofs.YtbpipmkgclkhgaaW.PrintLast
set_option linter.unusedVariables false
set_option linter.unusedSimpArgs false

theorem FnExactWeakSum (d : Int) (l : List (List Int)) (s : ByteArray) (hl : l.length ≤ 9223372036854775807) (hw : ∀ r ∈ l, r.length ≤ 9223372036854775807) : ∃ k, laws_FnExactWeakSum.f k d l s = some true := by
  refine ⟨5000000, ?_⟩
  obtain ⟨K, hK⟩ : ∃ K : Nat, K = 4999999 := ⟨_, rfl⟩
  rw [show (5000000 : Nat) = K + 1 from by omega]
  unfold laws_FnExactWeakSum.f
  by_cases hs : (s.size : Int) > 1048576
  · rw [if_pos hs]
  rw [if_neg hs]
  obtain ⟨t, ht, h2⟩ := szSS_f (K + 1) l 1048576 hw hl (by omega) (by omega) (by omega)
  rw [ht, Option.bind_some]
  by_cases hn : t < 0
  · rw [if_pos hn]
  rw [if_neg hn]
  have h3 : l.length ≤ 1048576 ∧ size2 l ≤ 1048576 := by omega
  have S := spec_sum_f true (K + 1) d l s (by omega) (by omega) (by omega)
  have I := impl_sumOf_f true (K + 1) d l s (by omega) (by omega)
  rw [toSS_f (K + 1) l h3.1 h3.2 (by omega)]
  simp only [Option.bind_some, spec_WeakSum.f, S, impl_WeakSum.f, I, if_true, bne_self_eq_false, laws_FnExactWeakSum.j0, Bool.false_eq_true, if_false]
  rw [toSS_f K l h3.1 h3.2 (by omega), Option.bind_some, eqSS_f K l h3.1 h3.2 (by omega), Option.bind_some, if_pos rfl]

end Go.Proofs.Ytbpipmkgclkhgaa.Pure
