/- What a call of the law on WordOfSignature comes to: the walk and the plain law together. -/
import Derived.Test.YtcklefgkbddlhaaHandOpenT
import Derived.Test.YtcklefgkbddlhaaWalkWordOfSignature
import Derived.Test.YtcklefgkbddlhaaPureFnExactWordOfSignature
namespace Go.Proofs.Ytcklefgkbddlhaa.Join
open Go.RowKit Go.Proofs.Ytcklefgkbddlhaa.P Go.Proofs.Ytcklefgkbddlhaa.Pure Go.Proofs.Ytcklefgkbddlhaa.Nest Go.Proofs.YtcklefgkbddlhaaW.PrintWords Go.Proofs.YtcklefgkbddlhaaW.PrintLast
set_option linter.unusedVariables false

theorem FnExactWordOfSignature (d n : Int) (A : Option Addr) (len c : Nat) (l : List S124) (W : World) (h : Hand.InTerms W A len c l) :
    Calls Try.prog 8 #[.agg #[.int .i64 d, .int .i64 n, .slice A len c]] W fun e w' => e = .returned (.bool true) ∧ Below W.heap.size W w' := by
  obtain ⟨hC, hc, rfl, hf⟩ := h
  have hM : maxLen = 9223372036854775807 := rfl
  obtain ⟨t, ht, q1⟩ := szSeries_f 5000000 d n l 1048576 (fun x hx => (hf x hx).1) (Kd.C_max hC) (by decide) (by decide) (by decide)
  by_cases hn : t < 0
  · exact walk_big d n A c l t W hC hc ht hn
  rcases q1 with q1 | ⟨q1, q2, q3, q4⟩
  · exact absurd q1 hn
  have hS : Small (l.map tmOf) := ⟨by rw [List.length_map]; omega, tmOf_mem (fun x hx => by have := q4 x hx; omega)⟩
  obtain ⟨kI, HI⟩ := impl_wos_f d n (l.map tmOf) hS
  obtain ⟨kS, HS⟩ := spec_wos_f d n (l.map tmOf) hS
  have hI := HI kI (Nat.le_refl _)
  have hSS := HS kS (Nat.le_refl _)
  have hr := wosRes_small d n (l.map tmOf)
  generalize wosRes d n (l.map tmOf) = R at hI hSS hr
  obtain ⟨lr, rc⟩ := R
  exact walk_main d n A c l lr t rc kS kI W hC hc ht hn (by omega) hr hSS hI
end Go.Proofs.Ytcklefgkbddlhaa.Join
