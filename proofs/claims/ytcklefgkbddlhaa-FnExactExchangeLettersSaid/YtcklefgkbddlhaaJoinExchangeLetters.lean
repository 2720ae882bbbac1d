/- What a call of the law on ExchangeLetters comes to: the walk and the plain law together. -/
import Derived.Test.YtcklefgkbddlhaaHandOpenT
import Derived.Test.YtcklefgkbddlhaaWalkExchangeLetters
import Derived.Test.YtcklefgkbddlhaaPureFnExactExchangeLetters
namespace Go.Proofs.Ytcklefgkbddlhaa.Join
open Go.RowKit Go.Proofs.Ytcklefgkbddlhaa.P Go.Proofs.Ytcklefgkbddlhaa.Pure Go.Proofs.Ytcklefgkbddlhaa.Nest Go.Proofs.YtcklefgkbddlhaaW.PrintWords Go.Proofs.YtcklefgkbddlhaaW.PrintLast
set_option linter.unusedVariables false

theorem FnExactExchangeLetters (d n : Int) (A : Option Addr) (len c : Nat) (l : List S124) (A2 : Option Addr) (n2 c2 : Nat) (z : List Int) (W : World) (h : Hand.InTerms W A len c l) (w2 : (A2 = none ∧ n2 = 0 ∧ c2 = 0 ∧ z = []) ∨ ∃ x, A2 = some x ∧ n2 ≤ c2 ∧ c2 ≤ maxLen ∧ z.length = c2 ∧ (∀ i, i < z.length → W.cell? (x.add i) = some (.int .i64 (z.getD i 0))) ∧ ∀ n ∈ z, (Lit.int .i64 n).wf = true) (_ : n2 * 8 ≤ 140737488351232) :
    Calls Try.prog 9 #[.agg #[.int .i64 d, .int .i64 n, .slice A len c], .slice A2 n2 c2] W fun e w' => e = .returned (.bool true) ∧ Below W.heap.size W w' := by
  obtain ⟨hC, hc, rfl, hf⟩ := h
  have hM : maxLen = 9223372036854775807 := rfl
  obtain ⟨ls, rfl, hr2, hm2, hw2, hc2⟩ := ReadsInt.ofRowC w2
  have h2 : Kd.C (Kd.int .i64) W A2 ls.length ls := Kd.C_of_reads (d := (0 : Int)) (h1 := fun _ => rfl) hr2
  by_cases hlb : ls.length ≤ 1048576
  · obtain ⟨t, ht, q1⟩ := szSeries_f 5000000 d n l 1048576 (fun x hx => (hf x hx).1) (Kd.C_max hC) (by decide) (by decide) (by decide)
    by_cases hn : t < 0
    · exact walk_big d n A c l A2 c2 ls t W hC hc h2 hc2 hlb ht hn
    rcases q1 with q1 | ⟨q1, q2, q3, q4⟩
    · exact absurd q1 hn
    have hS : Small (l.map tmOf) := ⟨by rw [List.length_map]; omega, tmOf_mem (fun x hx => by have := q4 x hx; omega)⟩
    obtain ⟨kI, HI⟩ := impl_exch_f (d := d) (n := n) hS ls hlb
    obtain ⟨kS, HS⟩ := spec_exch_f (d := d) (n := n) hS ls hlb
    have hI := HI kI (Nat.le_refl _)
    have hSS := HS kS (Nat.le_refl _)
    dsimp only at hI hSS
    have hr := exchRes_small d n (l.map tmOf) ls
    generalize exchRes d n (l.map tmOf) ls = R at hI hSS hr
    obtain ⟨t1, t2, t3, t4⟩ := R
    exact walk_main d n A c l A2 c2 ls t3 t t1 t2 t4 kS kI W hC hc h2 hc2 ht hn (by omega) hlb hr hSS hI
  · exact walk_long d n A c l A2 c2 ls W hC hc h2 hc2 hlb
end Go.Proofs.Ytcklefgkbddlhaa.Join
