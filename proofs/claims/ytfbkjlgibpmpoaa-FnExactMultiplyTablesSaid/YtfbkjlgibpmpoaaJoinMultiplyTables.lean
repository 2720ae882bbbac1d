/- What a call of the law comes to: the walk and the plain law together. -/
import Derived.Test.YtfbkjlgibpmpoaaBaseMatU
import Derived.Test.YtfbkjlgibpmpoaaBaseFrT
import Derived.Test.YtfbkjlgibpmpoaaWalkMultiplyTables
namespace Go.Proofs.Ytfbkjlgibpmpoaa.Join
open Go.RowKit Go.Proofs.Ytfbkjlgibpmpoaa.P Go.Proofs.Ytfbkjlgibpmpoaa.Pure Go.Proofs.Ytfbkjlgibpmpoaa.Nest Go.Proofs.YtfbkjlgibpmpoaaW.PrintWords Go.Proofs.YtfbkjlgibpmpoaaW.PrintLast
set_option linter.unusedVariables false

theorem fracs_small {W : World} {A : Option Addr} {l : List (List S129)} (h : Kd.C (Kd.slice 129 k129) W A l.length l) : ∀ r ∈ l, r.length ≤ 9223372036854775807 := by
  intro r hr
  obtain ⟨i, hi, rfl⟩ := List.getElem_of_mem hr
  obtain ⟨ad, A0, c0, _, _, _, hC⟩ := at_L2 h (i : Int) (by omega) (by omega)
  have hy : rd_L2 l (i : Int) = l[i] := rdLL_nat l i hi
  rw [hy] at hC
  exact Kd.C_max hC
theorem FnExactMultiplyTables (A : Option Addr) (c : Nat) (l : List (List S129)) (A2 : Option Addr) (c2 : Nat) (l2 : List (List S129)) (W : World) (h : Kd.C (Kd.slice 129 k129) W A l.length l) (hc : l.length ≤ c) (h2 : Kd.C (Kd.slice 129 k129) W A2 l2.length l2) (hc2 : l2.length ≤ c2) :
    Calls Try.prog 5 #[.slice A l.length c, .slice A2 l2.length c2] W fun e w' => e = .returned (.bool true) ∧ Below W.heap.size W w' := by
  obtain ⟨t, ht, q1⟩ := szFSS_f 5000000 l 1048576 (fracs_small h) (Kd.C_max h) (by omega) (by omega) (by omega)
  by_cases hn : t < 0
  · exact walk_big A c l A2 c2 l2 t W h hc ht hn
  obtain ⟨u, hu, q2⟩ := szFSS_f 5000000 l2 t (fracs_small h2) (Kd.C_max h2) (by omega) (by omega) (by omega)
  by_cases hn2 : u < 0
  · exact walk_big2 A c l A2 c2 l2 t u W h hc h2 hc2 ht hn hu hn2
  obtain ⟨r, c', ⟨kS, hS⟩, ⟨kI, hI⟩, n1, n2⟩ := mat_both (l.map (List.map frOf)) (l2.map (List.map frOf))
  have e1 := totF_map l
  have e2 := totF_map l2
  have e3 := toFSS_f 5000000 l (by omega) (by omega) (by decide)
  have e4 := toFSS_f 5000000 l2 (by omega) (by omega) (by decide)
  have e5 : (l.map (List.map frOf)).length = l.length := List.length_map _
  have e6 : (l2.map (List.map frOf)).length = l2.length := List.length_map _
  exact walk_main A c l A2 c2 l2 _ _ r t u c' kS kI W h hc h2 hc2 ht hn hu hn2 e3 e4 (by omega) (by omega) ⟨n1, n2⟩ (hS kS (Nat.le_refl _)) (hI kI (Nat.le_refl _))
end Go.Proofs.Ytfbkjlgibpmpoaa.Join
