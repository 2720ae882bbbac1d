/- What a call of the law on same sums comes to: the walk and the plain law together. -/
import Derived.Test.YtbpipmkgclkhgaaHandRows
import Derived.Test.YtbpipmkgclkhgaaPureFnExactSameSums
namespace Go.Proofs.Ytbpipmkgclkhgaa.Join
open Go.RowKit Go.Proofs.Ytbpipmkgclkhgaa.P Go.Proofs.YtbpipmkgclkhgaaW.PrintWords Go.Proofs.YtbpipmkgclkhgaaW.PrintLast
set_option linter.unusedVariables false

theorem rows_small2 {W : World} {A : Option Addr} {l : List (List Int)} (h : Kd.C (Kd.slice 2 (Kd.int .i64)) W A l.length l) : ∀ r ∈ l, r.length ≤ 9223372036854775807 := by
  intro r hr
  obtain ⟨i, hi, rfl⟩ := List.getElem_of_mem hr
  obtain ⟨ad, A0, c0, _, _, _, hC⟩ := Hand.at_rows h (i : Int) (by omega) (by omega)
  have hy : Hand.rdR l i = l[i] := by simp [Hand.rdR, hi]
  rw [hy] at hC
  exact Kd.C_max hC
theorem FnExactSameSums (a : Int) (n : Int) (A : Option Addr) (c : Nat) (l : List (List Int)) (A2 : Option Addr) (c2 : Nat) (l2 : List (List Int)) (W : World) (_ : (Lit.int .i64 a).wf = true) (_ : (Lit.int .i64 n).wf = true) (h : Kd.C (Kd.slice 2 (Kd.int .i64)) W A l.length l) (hc : l.length ≤ c) (_ : ∀ r ∈ l, ∀ n ∈ r, (Lit.int .i64 n).wf = true) (h2 : Kd.C (Kd.slice 2 (Kd.int .i64)) W A2 l2.length l2) (hc2 : l2.length ≤ c2) (_ : ∀ r ∈ l2, ∀ n ∈ r, (Lit.int .i64 n).wf = true) :
    Calls Try.prog 14 #[.int .i64 a, .int .i64 n, .slice A l.length c, .slice A2 l2.length c2] W fun e w' => e = .returned (.bool true) ∧ Below W.heap.size W w' := by
  obtain ⟨k, hk⟩ := Pure.FnExactSameSums a n l l2 (Kd.C_max h) (rows_small2 h) (Kd.C_max h2) (rows_small2 h2)
  exact laws_FnExactSameSums.calls k a n A c l A2 c2 l2 true W h hc h2 hc2 hk

end Go.Proofs.Ytbpipmkgclkhgaa.Join
