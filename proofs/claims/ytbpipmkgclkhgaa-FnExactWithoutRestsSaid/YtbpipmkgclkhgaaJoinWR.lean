/- What a call of the law on paths without rests comes to: the walk and the plain law together. -/
import Derived.Test.YtbpipmkgclkhgaaWalkWithoutRests
import Derived.Test.YtbpipmkgclkhgaaHandRows
import Derived.Test.YtbpipmkgclkhgaaBaseRests
namespace Go.Proofs.Ytbpipmkgclkhgaa.Join
open Go.RowKit Go.Proofs.Ytbpipmkgclkhgaa.P Go.Proofs.Ytbpipmkgclkhgaa.Pure Go.Proofs.Ytbpipmkgclkhgaa.Nest Go.Proofs.YtbpipmkgclkhgaaW.PrintWords Go.Proofs.YtbpipmkgclkhgaaW.PrintLast
set_option linter.unusedVariables false

theorem rows_small {W : World} {A : Option Addr} {l : List (List Int)} (h : Kd.C (Kd.slice 2 (Kd.int .i64)) W A l.length l) : ∀ r ∈ l, r.length ≤ 9223372036854775807 := by
  intro r hr
  obtain ⟨i, hi, rfl⟩ := List.getElem_of_mem hr
  obtain ⟨ad, A0, c0, _, _, _, hC⟩ := Hand.at_rows h (i : Int) (by omega) (by omega)
  have hy : Hand.rdR l i = l[i] := by simp [Hand.rdR, hi]
  rw [hy] at hC
  exact Kd.C_max hC
theorem total_size2 (l : List (List Int)) : total l = size2 l := by
  induction l with
  | nil => rfl
  | cons r l ih => rw [total, size2, ih]
theorem FnExactWithoutRests (a : Int) (A : Option Addr) (c : Nat) (l : List (List Int)) (W : World) (_ : (Lit.int .i64 a).wf = true) (h : Kd.C (Kd.slice 2 (Kd.int .i64)) W A l.length l) (hc : l.length ≤ c) (_ : ∀ r ∈ l, ∀ n ∈ r, (Lit.int .i64 n).wf = true) :
    Calls Try.prog 11 #[.int .i64 a, .slice A l.length c] W fun e w' => e = .returned (.bool true) ∧ Below W.heap.size W w' := by
  obtain ⟨t, ht, h2⟩ := szSS_f 5000000 l 1048576 (rows_small h) (Kd.C_max h) (by omega) (by omega) (by omega)
  by_cases hn : t < 0
  · exact walk_big a A c l t W h hc ht hn
  · have h3 : l.length + size2 l ≤ 1048576 := by omega
    have h4 := total_size2 l
    have hS := spec_WithoutRests_f 5000000 a l (by omega) (by omega)
    have hI := impl_WithoutRests_ff 5000000 a l
    have hr := wrRes_small a l
    generalize wrRes a l = R at hS hI hr
    obtain ⟨r, cc⟩ := R
    exact walk_main a A c l t r cc W h hc ht hn h3 (by omega) hr hS hI

end Go.Proofs.Ytbpipmkgclkhgaa.Join
