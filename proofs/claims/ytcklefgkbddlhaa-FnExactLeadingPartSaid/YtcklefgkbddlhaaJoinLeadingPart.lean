/- What a call of the law on LeadingPart comes to: the walk and the plain law together. -/
import Derived.Test.YtcklefgkbddlhaaWalkLeadingPart
import Derived.Test.YtcklefgkbddlhaaPureFnExactLeadingPart
namespace Go.Proofs.Ytcklefgkbddlhaa.Join
open Go.RowKit Go.Proofs.Ytcklefgkbddlhaa.P Go.Proofs.Ytcklefgkbddlhaa.Pure Go.Proofs.Ytcklefgkbddlhaa.Nest Go.Proofs.YtcklefgkbddlhaaW.PrintWords Go.Proofs.YtcklefgkbddlhaaW.PrintLast
set_option linter.unusedVariables false

theorem FnExactLeadingPart (a b : Int) (A : Option Addr) (n2 c : Nat) (z : List Int) (W : World) (_ : (Lit.int .i64 a).wf = true) (_ : (Lit.int .i64 b).wf = true) (w2 : (A = none ∧ n2 = 0 ∧ c = 0 ∧ z = []) ∨ ∃ x, A = some x ∧ n2 ≤ c ∧ c ≤ maxLen ∧ z.length = c ∧ (∀ i, i < z.length → W.cell? (x.add i) = some (.int .i64 (z.getD i 0))) ∧ ∀ n ∈ z, (Lit.int .i64 n).wf = true) (_ : n2 * 8 ≤ 140737488351232) :
    Calls Try.prog 7 #[.int .i64 a, .int .i64 b, .slice A n2 c] W fun e w' => e = .returned (.bool true) ∧ Below W.heap.size W w' := by
  obtain ⟨l, rfl, hr2, hm2, hw2, hc⟩ := ReadsInt.ofRowC w2
  have h : Kd.C (Kd.int .i64) W A l.length l := Kd.C_of_reads (d := (0 : Int)) (h1 := fun _ => rfl) hr2
  by_cases hn : (l.length : Int) > 1048576
  · exact walk_big a b A c l W hn
  obtain ⟨K0, H0⟩ := impl_lead_f a b l
  obtain ⟨K1, H1⟩ := spec_lead_f a b l
  have I := H0 K0 (Nat.le_refl _)
  have S := H1 K1 (Nat.le_refl _)
  dsimp only at I S
  have hm := leadRes_small a b l
  generalize leadRes a b l = r at I S hm
  obtain ⟨t1, t2, t3, t4⟩ := r
  exact walk_main a b A c l t1 t2 t4 t3 K1 K0 W h hc (by omega) hm S I
end Go.Proofs.Ytcklefgkbddlhaa.Join
