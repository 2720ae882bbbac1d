/- What a call of the law comes to: the walk and the plain law together. -/
import Derived.Test.YtfbkjlgibpmpoaaHandRows
import Derived.Test.YtfbkjlgibpmpoaaBaseSerS
import Derived.Test.YtfbkjlgibpmpoaaWalkWeakSeries
namespace Go.Proofs.Ytfbkjlgibpmpoaa.Join
open Go.RowKit Go.Proofs.Ytfbkjlgibpmpoaa.P Go.Proofs.Ytfbkjlgibpmpoaa.Pure Go.Proofs.Ytfbkjlgibpmpoaa.Nest Go.Proofs.YtfbkjlgibpmpoaaW.PrintWords Go.Proofs.YtfbkjlgibpmpoaaW.PrintLast
set_option linter.unusedVariables false

theorem rows_small {W : World} {A : Option Addr} {l : List (List Int)} (h : Kd.C (Kd.slice 2 (Kd.int .i64)) W A l.length l) : ∀ r ∈ l, r.length ≤ 9223372036854775807 := by
  intro r hr
  obtain ⟨i, hi, rfl⟩ := List.getElem_of_mem hr
  obtain ⟨ad, A0, c0, _, _, _, hC⟩ := Hand.at_rows h (i : Int) (by omega) (by omega)
  have hy : Hand.rdR l i = l[i] := by simp [Hand.rdR, hi]
  rw [hy] at hC
  exact Kd.C_max hC
theorem total_size2 (l : List (List Int)) : Nest.total l = size2 l := by
  induction l with
  | nil => rfl
  | cons r l ih => simp only [Nest.total, size2, ih]
theorem FnExactWeakSeries (a b : Int) (A : Option Addr) (c : Nat) (l : List (List Int)) (W : World) (_ : (Lit.int .i64 a).wf = true) (_ : (Lit.int .i64 b).wf = true) (h : Kd.C (Kd.slice 2 (Kd.int .i64)) W A l.length l) (hc : l.length ≤ c) (_ : ∀ r ∈ l, ∀ n ∈ r, (Lit.int .i64 n).wf = true) :
    Calls Try.prog 7 #[.int .i64 a, .int .i64 b, .slice A l.length c] W fun e w' => e = .returned (.bool true) ∧ Below W.heap.size W w' := by
  obtain ⟨t, ht, h2⟩ := szSS_f 5000000 l 1048576 (rows_small h) (Kd.C_max h) (by omega) (by omega) (by omega)
  by_cases hn : t < 0
  · exact walk_big a b A c l t W h hc ht hn
  have h3 : l.length + size2 l ≤ 1048576 := by omega
  have hts := total_size2 l
  have hS := spec_ser_f true 5000000 a b l (by omega) (by decide)
  have hI := Pure.sums_ser true 5000000 a b l (by decide)
  have hm := Pure.serRes_small true a b l
  generalize Pure.serRes true a b l = r at hS hI hm
  obtain ⟨t1, t2, t3, t4⟩ := r
  exact walk_main a b A c l t t1 t2 t4 t3 W h hc ht hn h3 (by omega) hm hS hI

end Go.Proofs.Ytfbkjlgibpmpoaa.Join
