/- For all letters, levels and sequences the program's SameSums returns what the reference's returns. -/
import Derived.Test.YtbpipmkgclkhgaaPx8
import Derived.Test.YtbpipmkgclkhgaaBaseSame
namespace Go.Proofs.Ytbpipmkgclkhgaa.Pure
open Go.RowKit Go.Proofs.Ytbpipmkgclkhgaa.P Go.Proofs.YtbpipmkgclkhgaaW.PrintWords Go.Proofs.YtbpipmkgclkhgaaW.PrintLast
set_option linter.unusedVariables false
set_option linter.unusedSimpArgs false

theorem FnExactSameSums (d n : Int) (a b : List (List Int)) (ha : a.length ≤ 9223372036854775807) (wa : ∀ r ∈ a, r.length ≤ 9223372036854775807) (hb : b.length ≤ 9223372036854775807) (wb : ∀ r ∈ b, r.length ≤ 9223372036854775807) : ∃ k, laws_FnExactSameSums.f k d n a b = some true := by
  refine ⟨5000000, ?_⟩
  obtain ⟨K, hK⟩ : ∃ K : Nat, K = 4999999 := ⟨_, rfl⟩
  rw [show (5000000 : Nat) = K + 1 from by omega]
  unfold laws_FnExactSameSums.f
  obtain ⟨t, ht, h2⟩ := szSS_f (K + 1) a 1048576 wa ha (by omega) (by omega) (by omega)
  rw [ht, Option.bind_some]
  by_cases hn : t < 0
  · rw [if_pos hn]
  rw [if_neg hn]
  obtain ⟨u, hu, h3⟩ := szSS_f (K + 1) b t wb hb (by omega) (by omega) (by omega)
  rw [hu, Option.bind_some]
  by_cases hm : u < 0
  · rw [if_pos hm]
  rw [if_neg hm]
  have la : a.length ≤ 1048576 ∧ size2 a ≤ 1048576 := by omega
  have lb : b.length ≤ 1048576 ∧ size2 b ≤ 1048576 := by omega
  have S := spec_SameSums_f (K + 1) d n a b (by omega) (by omega) (by omega)
  have I := impl_SameSums_f (K + 1) d n a b (by omega)
  have A1 := toSS_f (K + 1) a la.1 la.2 (by omega)
  have B1 := toSS_f (K + 1) b lb.1 lb.2 (by omega)
  have A0 := toSS_f K a la.1 la.2 (by omega)
  have B0 := toSS_f K b lb.1 lb.2 (by omega)
  have EA := eqSS_f K a la.1 la.2 (by omega)
  have EB := eqSS_f K b lb.1 lb.2 (by omega)
  simp only [A1, B1, S, I, A0, B0, EA, EB, Option.bind_some, bne_self_eq_false, Bool.false_eq_true, if_true, if_false, laws_FnExactSameSums.j0]

end Go.Proofs.Ytbpipmkgclkhgaa.Pure
