/- What a call of the law on MapSeries comes to: the walk and the plain law together. -/
import Derived.Test.YtcklefgkbddlhaaHandOpenT
import Derived.Test.YtcklefgkbddlhaaHandRows
import Derived.Test.YtcklefgkbddlhaaWalkMapSeries
import Derived.Test.YtcklefgkbddlhaaPureFnExactMapSeries
namespace Go.Proofs.Ytcklefgkbddlhaa.Join
open Go.RowKit Go.Proofs.Ytcklefgkbddlhaa.P Go.Proofs.Ytcklefgkbddlhaa.Pure Go.Proofs.Ytcklefgkbddlhaa.Nest Go.Proofs.YtcklefgkbddlhaaW.PrintWords Go.Proofs.YtcklefgkbddlhaaW.PrintLast
set_option linter.unusedVariables false

theorem rows_small {W : World} {A : Option Addr} {l : List (List Int)} (h : Kd.C (Kd.slice 2 (Kd.int .i64)) W A l.length l) : ∀ r ∈ l, r.length ≤ 9223372036854775807 := by
  intro r hr
  obtain ⟨i, hi, rfl⟩ := List.getElem_of_mem hr
  obtain ⟨ad, A0, c0, _, _, _, hC⟩ := Hand.at_rows h (i : Int) (by omega) (by omega)
  have hy : Hand.rdR l i = l[i] := by simp [Hand.rdR, hi]
  rw [hy] at hC
  exact Kd.C_max hC
theorem total_size2 (l : List (List Int)) : total l = size2 l := by
  induction l with
  | nil => rfl
  | cons r l ih => rw [total, size2, ih]
theorem FnExactMapSeries (d n : Int) (A : Option Addr) (len c : Nat) (l : List S124) (ee : Int) (A2 : Option Addr) (c2 : Nat) (T : List (List Int)) (W : World) (h : Hand.InTerms W A len c l) (_ : (Lit.int .i64 ee).wf = true) (h2 : Kd.C (Kd.slice 2 (Kd.int .i64)) W A2 T.length T) (hc2 : T.length ≤ c2) (hT : ∀ r ∈ T, ∀ n ∈ r, (Lit.int .i64 n).wf = true) :
    Calls Try.prog 11 #[.agg #[.int .i64 d, .int .i64 n, .slice A len c], .int .i64 ee, .slice A2 T.length c2] W fun e w' => e = .returned (.bool true) ∧ Below W.heap.size W w' := by
  obtain ⟨hC, hc, rfl, hf⟩ := h
  have hM : maxLen = 9223372036854775807 := rfl
  obtain ⟨t, ht, q1⟩ := szSeries_f 5000000 d n l 1048576 (fun x hx => (hf x hx).1) (Kd.C_max hC) (by decide) (by decide) (by decide)
  by_cases hn : t < 0
  · exact walk_big d n ee A c l A2 c2 T t W hC hc h2 hc2 ht hn
  rcases q1 with q1 | ⟨q1, q2, q3, q4⟩
  · exact absurd q1 hn
  obtain ⟨u, hu, p1⟩ := szSS_f 5000000 T t (rows_small h2) (Kd.C_max h2) (by decide) q1 (by omega)
  by_cases hn2 : u < 0
  · exact walk_big2 d n ee A c l A2 c2 T t u W hC hc h2 hc2 ht hn hu hn2
  have h4 := total_size2 T
  have hS : Small (l.map tmOf) := ⟨by rw [List.length_map]; omega, tmOf_mem (fun x hx => by have := q4 x hx; omega)⟩
  obtain ⟨kI, HI⟩ := impl_map_f (d := d) (n := n) (e := ee) (rows := T) hS
  obtain ⟨kS, HS⟩ := spec_map_f (d := d) (n := n) (e := ee) (rows := T) hS
  have hI := HI kI (Nat.le_refl _)
  have hSS := HS kS (Nat.le_refl _)
  have hr := mapRes_small (d := d) (n := n) (l := l.map tmOf) (e := ee) (rows := T)
  generalize mapRes d n (l.map tmOf) ee T = R at hI hSS hr
  obtain ⟨t1, t2, t3, t4⟩ := R
  exact walk_main d n ee A c l A2 c2 T t3 t u t1 t2 t4 kS kI W hC hc h2 hc2 ht hn hu hn2 (by omega) (by omega) hr hSS hI
end Go.Proofs.Ytcklefgkbddlhaa.Join
