/- What a call of the law on ValueOfSeries comes to: the walk and the plain law together. -/
import Derived.Test.YtcklefgkbddlhaaHandOpenT
import Derived.Test.YtcklefgkbddlhaaHandRows3
import Derived.Test.YtcklefgkbddlhaaWalkValueOfSeries
import Derived.Test.YtcklefgkbddlhaaPureFnExactValueOfSeries
namespace Go.Proofs.Ytcklefgkbddlhaa.Join
open Go.RowKit Go.Proofs.Ytcklefgkbddlhaa.P Go.Proofs.Ytcklefgkbddlhaa.Pure Go.Proofs.Ytcklefgkbddlhaa.Nest Go.Proofs.YtcklefgkbddlhaaW.PrintWords Go.Proofs.YtcklefgkbddlhaaW.PrintLast
set_option linter.unusedVariables false

theorem rows3_small {W : World} {A : Option Addr} {l : List (List (List Int))} (h : Kd.C (Kd.slice 48 (Kd.slice 2 (Kd.int .i64))) W A l.length l) : ∀ m ∈ l, m.length ≤ 9223372036854775807 ∧ ∀ r ∈ m, r.length ≤ 9223372036854775807 := by
  intro m hm
  obtain ⟨i, hi, rfl⟩ := List.getElem_of_mem hm
  obtain ⟨ad, A0, c0, _, _, _, hC⟩ := Hand.at_rows3 h (i : Int) (by omega) (by omega)
  have hy : Hand.rdR3 l i = l[i] := by simp [Hand.rdR3, hi]
  rw [hy] at hC
  refine ⟨Kd.C_max hC, fun r hr => ?_⟩
  obtain ⟨j, hj, rfl⟩ := List.getElem_of_mem hr
  obtain ⟨_, _, _, _, _, _, hD⟩ := Hand.at_rows hC (j : Int) (by omega) (by omega)
  have hz : Hand.rdR l[i] j = l[i][j] := by simp [Hand.rdR, hj]
  rw [hz] at hD
  exact Kd.C_max hD
theorem total_size2 (l : List (List Int)) : total l = size2 l := by
  induction l with
  | nil => rfl
  | cons r l ih => rw [total, size2, ih]
theorem total3_size3 (l : List (List (List Int))) : total3 l ≤ size3 l := by
  induction l with
  | nil => exact Nat.le_refl _
  | cons r l ih => rw [total3, size3, total_size2]; omega
theorem FnExactValueOfSeries (d n : Int) (A : Option Addr) (len c : Nat) (l : List S124) (A2 : Option Addr) (c2 : Nat) (T : List (List (List Int))) (W : World) (h : Hand.InTerms W A len c l) (h2 : Kd.C (Kd.slice 48 (Kd.slice 2 (Kd.int .i64))) W A2 T.length T) (hc2 : T.length ≤ c2) (hT : ∀ m ∈ T, ∀ r ∈ m, ∀ n ∈ r, (Lit.int .i64 n).wf = true) :
    Calls Try.prog 4 #[.agg #[.int .i64 d, .int .i64 n, .slice A len c], .slice A2 T.length c2] W fun e w' => e = .returned (.bool true) ∧ Below W.heap.size W w' := by
  obtain ⟨hC, hc, rfl, hf⟩ := h
  have hM : maxLen = 9223372036854775807 := rfl
  obtain ⟨t, ht, q1⟩ := szSeries_f 5000000 d n l 1048576 (fun x hx => (hf x hx).1) (Kd.C_max hC) (by decide) (by decide) (by decide)
  by_cases hn : t < 0
  · exact walk_big d n A c l A2 c2 T t W hC hc h2 hc2 ht hn
  rcases q1 with q1 | ⟨q1, q2, q3, q4⟩
  · exact absurd q1 hn
  obtain ⟨u, hu, p1⟩ := szSSS_g 5000000 T t q1 (by omega) (rows3_small h2) (Kd.C_max h2) (by decide)
  by_cases hn2 : u < 0
  · exact walk_big2 d n A c l A2 c2 T t u W hC hc h2 hc2 ht hn hu hn2
  rcases p1 with p1 | ⟨p1, p2⟩
  · exact absurd p1 hn2
  have h4 := total3_size3 T
  have hS : Small (l.map tmOf) := ⟨by rw [List.length_map]; omega, tmOf_mem (fun x hx => by have := q4 x hx; omega)⟩
  obtain ⟨kI, HI⟩ := impl_vo_f (d := d) (n := n) (T := T) hS
  obtain ⟨kS, HS⟩ := spec_vo_f (d := d) (n := n) (T := T) hS (by omega)
  have hI := HI kI (Nat.le_refl _)
  have hSS := HS kS (Nat.le_refl _)
  have hr := voRes_small (d := d) (n := n) (l := l.map tmOf) (T := T)
  generalize voRes d n (l.map tmOf) T = R at hI hSS hr
  obtain ⟨r, cc⟩ := R
  exact walk_main d n A c l A2 c2 T r t u cc kS kI W hC hc h2 hc2 ht hn hu hn2 (by omega) (by omega) (fun x hx => by have := size3_mem hx; omega) hr hSS hI
end Go.Proofs.Ytcklefgkbddlhaa.Join
