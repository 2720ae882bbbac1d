/- What a call of the law on products of words comes to: the walk and the plain law together. -/
import Derived.Test.YtbpipmkgclkhgaaWalkProductOfWord
import Derived.Test.YtbpipmkgclkhgaaBaseProdOf
import Derived.Test.YtbpipmkgclkhgaaBaseFit
namespace Go.Proofs.Ytbpipmkgclkhgaa.Join
open Go.RowKit Go.Proofs.Ytbpipmkgclkhgaa.P Go.Proofs.Ytbpipmkgclkhgaa.Pure Go.Proofs.Ytbpipmkgclkhgaa.Nest Go.Proofs.YtbpipmkgclkhgaaW.PrintWords Go.Proofs.YtbpipmkgclkhgaaW.PrintLast
set_option linter.unusedVariables false

theorem total_tab (n : Nat) (f : Nat → Nat → Int) : ∀ m, total (tab m fun i => tab n (f i)) = m * n := by
  intro m
  induction m with
  | zero => simp [tab, total]
  | succ m ih => rw [tab_succ, total_append, ih]; simp [total, tab_length, Nat.succ_mul]
theorem poRes_fits (d : Int) (l : List (List (List Int))) (s : ByteArray) : (poRes d l s).1.length ≤ 1000 ∧ total (poRes d l s).1 ≤ 10000 := by
  rcases poRes_small d l s with h | ⟨n, f, hn, h⟩
  · rw [h]; simp [total]
  · rw [h, mat_length]
    unfold mat
    rw [total_tab]
    have := Nat.mul_le_mul hn hn
    omega
theorem FnExactProductOfWord (a : Int) (A : Option Addr) (c : Nat) (l : List (List (List Int))) (s : ByteArray) (W : World) (_ : (Lit.int .i64 a).wf = true) (h : Kd.C (Kd.slice 44 (Kd.slice 2 (Kd.int .i64))) W A l.length l) (hc : l.length ≤ c) (_ : ∀ m ∈ l, ∀ r ∈ m, ∀ n ∈ r, (Lit.int .i64 n).wf = true) (_ : s.size ≤ 140737488351232) :
    Calls Try.prog 9 #[.int .i64 a, .slice A l.length c, .string s] W fun e w' => e = .returned (.bool true) ∧ Below W.heap.size W w' := by
  by_cases hs : 1048576 < s.size
  · exact walk_long2 a A c l s W hs
  obtain ⟨t, ht, h2⟩ := szSSS_f 5000000 l (rows3_small h) (Kd.C_max h) (by omega)
  by_cases hn : t < 0
  · exact walk_big a A c l s t W h hc (by omega) ht hn
  · have h3 : l.length + size3 l ≤ 1048576 := by omega
    have h4 := total3_size3 l
    have hS := spec_ProductOfWord_f 5000000 a l s (by omega) (by omega) (by omega)
    have hI := impl_ProductOfWord_f 5000000 a l s (by omega) (by omega)
    have hr := poRes_fits a l s
    generalize poRes a l s = R at hS hI hr
    obtain ⟨r, cc⟩ := R
    exact walk_main a A c l s t r cc W h hc (by omega) ht hn h3 (fun x hx => by have := size3_mem hx; omega) (by omega) hr hS hI

end Go.Proofs.Ytbpipmkgclkhgaa.Join

