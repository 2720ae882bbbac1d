/- What calls of the laws on sums come to: the walk and the plain law together. -/
import Derived.Test.YtbpipmkgclkhgaaHandRows
import Derived.Test.YtbpipmkgclkhgaaPureFnExactStrictSum
import Derived.Test.YtbpipmkgclkhgaaPureFnExactWeakSum
namespace Go.Proofs.Ytbpipmkgclkhgaa.Join
open Go.RowKit Go.Proofs.Ytbpipmkgclkhgaa.P Go.Proofs.YtbpipmkgclkhgaaW.PrintWords Go.Proofs.YtbpipmkgclkhgaaW.PrintLast
set_option linter.unusedVariables false

theorem rows_small {W : World} {A : Option Addr} {l : List (List Int)} (h : Kd.C (Kd.slice 2 (Kd.int .i64)) W A l.length l) : ∀ r ∈ l, r.length ≤ 9223372036854775807 := by
  intro r hr
  obtain ⟨i, hi, rfl⟩ := List.getElem_of_mem hr
  obtain ⟨ad, A0, c0, _, _, _, hC⟩ := Hand.at_rows h (i : Int) (by omega) (by omega)
  have hy : Hand.rdR l i = l[i] := by simp [Hand.rdR, hi]
  rw [hy] at hC
  exact Kd.C_max hC
theorem FnExactStrictSum (a : Int) (A : Option Addr) (c : Nat) (l : List (List Int)) (s : ByteArray) (W : World) (_ : (Lit.int .i64 a).wf = true) (h : Kd.C (Kd.slice 2 (Kd.int .i64)) W A l.length l) (hc : l.length ≤ c) (_ : ∀ r ∈ l, ∀ n ∈ r, (Lit.int .i64 n).wf = true) (_ : s.size ≤ 140737488351232) :
    Calls Try.prog 12 #[.int .i64 a, .slice A l.length c, .string s] W fun e w' => e = .returned (.bool true) ∧ Below W.heap.size W w' := by
  obtain ⟨k, hk⟩ := Pure.FnExactStrictSum a l s (Kd.C_max h) (rows_small h)
  exact laws_FnExactStrictSum.calls k a A c l s true W h hc hk
theorem FnExactWeakSum (a : Int) (A : Option Addr) (c : Nat) (l : List (List Int)) (s : ByteArray) (W : World) (_ : (Lit.int .i64 a).wf = true) (h : Kd.C (Kd.slice 2 (Kd.int .i64)) W A l.length l) (hc : l.length ≤ c) (_ : ∀ r ∈ l, ∀ n ∈ r, (Lit.int .i64 n).wf = true) (_ : s.size ≤ 140737488351232) :
    Calls Try.prog 13 #[.int .i64 a, .slice A l.length c, .string s] W fun e w' => e = .returned (.bool true) ∧ Below W.heap.size W w' := by
  obtain ⟨k, hk⟩ := Pure.FnExactWeakSum a l s (Kd.C_max h) (rows_small h)
  exact laws_FnExactWeakSum.calls k a A c l s true W h hc hk

end Go.Proofs.Ytbpipmkgclkhgaa.Join
