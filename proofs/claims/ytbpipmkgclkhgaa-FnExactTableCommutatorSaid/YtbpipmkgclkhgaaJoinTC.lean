/- What a call of the law on commutators of tables comes to: the walk and the plain law together. -/
import Derived.Test.YtbpipmkgclkhgaaWalkTableCommutator
import Derived.Test.YtbpipmkgclkhgaaBaseTurn
import Derived.Test.YtbpipmkgclkhgaaBaseFit
namespace Go.Proofs.Ytbpipmkgclkhgaa.Join
open Go.RowKit Go.Proofs.Ytbpipmkgclkhgaa.P Go.Proofs.Ytbpipmkgclkhgaa.Pure Go.Proofs.Ytbpipmkgclkhgaa.Nest Go.Proofs.YtbpipmkgclkhgaaW.PrintWords Go.Proofs.YtbpipmkgclkhgaaW.PrintLast
set_option linter.unusedVariables false

theorem total_tab (n : Nat) (f : Nat → Nat → Int) : ∀ m, total (tab m fun i => tab n (f i)) = m * n := by
  intro m
  induction m with
  | zero => simp [tab, total]
  | succ m ih => rw [tab_succ, total_append, ih]; simp [total, tab_length, Nat.succ_mul]
theorem tcRes_small (d : Int) (l : List (List (List Int))) (i k : Int) : (tcRes d l i k).1.length ≤ 1000 ∧ total (tcRes d l i k).1 ≤ 10000 := by
  unfold tcRes
  split
  · have hn := dim_le (d := d) (l := l) (by assumption)
    split
    · show (mat _ _).length ≤ 1000 ∧ total (mat _ _) ≤ 10000
      rw [mat_length]
      unfold mat
      rw [total_tab]
      have := Nat.mul_le_mul hn hn
      omega
    · simp [total]
  · simp [total]
theorem FnExactTableCommutator (a : Int) (A : Option Addr) (c : Nat) (l : List (List (List Int))) (i : Int) (k : Int) (W : World) (_ : (Lit.int .i64 a).wf = true) (h : Kd.C (Kd.slice 44 (Kd.slice 2 (Kd.int .i64))) W A l.length l) (hc : l.length ≤ c) (_ : ∀ m ∈ l, ∀ r ∈ m, ∀ n ∈ r, (Lit.int .i64 n).wf = true) (_ : (Lit.int .i64 i).wf = true) (_ : (Lit.int .i64 k).wf = true) :
    Calls Try.prog 7 #[.int .i64 a, .slice A l.length c, .int .i64 i, .int .i64 k] W fun e w' => e = .returned (.bool true) ∧ Below W.heap.size W w' := by
  obtain ⟨t, ht, h2⟩ := szSSS_f 5000000 l (rows3_small h) (Kd.C_max h) (by omega)
  by_cases hn : t < 0
  · exact walk_big a A c l i k t W h hc ht hn
  · have h3 : l.length + size3 l ≤ 1048576 := by omega
    have h4 := total3_size3 l
    have hS := spec_TableCommutator_f 5000000 a l i k (by omega) (by omega)
    have hI := impl_TableCommutator_f 5000000 a l i k (by omega)
    have hr := tcRes_small a l i k
    generalize tcRes a l i k = R at hS hI hr
    obtain ⟨r, cc⟩ := R
    exact walk_main a A c l i k t r cc W h hc ht hn h3 (fun x hx => by have := size3_mem hx; omega) (by omega) hr hS hI

end Go.Proofs.Ytbpipmkgclkhgaa.Join
