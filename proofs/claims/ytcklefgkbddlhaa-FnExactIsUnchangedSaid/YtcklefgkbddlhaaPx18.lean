/- What a call of each Go function named below comes to is what the plain Lean function beside it says. Made by a program of this session out of the print of the translation; Lean checks it. -/
import Derived.Test.YtcklefgkbddlhaaPx0
import Derived.Test.YtcklefgkbddlhaaPx11
import Derived.Test.YtcklefgkbddlhaaPx14
import Derived.Test.YtcklefgkbddlhaaPx15
import Derived.Test.YtcklefgkbddlhaaPx16
import Derived.Test.YtcklefgkbddlhaaPx17
import Derived.Test.YtcklefgkbddlhaaTabN
namespace Go.Proofs.Ytcklefgkbddlhaa.P
open Go.RowKit Go.Proofs.YtcklefgkbddlhaaW.PrintWords Go.Proofs.YtcklefgkbddlhaaW.PrintLast Go.Proofs.YtcklefgkbddlhaaW.PrintMore
attribute [local go_sem] max2_int min2_int max_two min_two max_three min_three max_four min_four   -- for this text's walks alone
set_option linter.unusedVariables false
set_option linter.unusedSimpArgs false


/-! ### impl_MapSeries: function 49, by hand -/
theorem impl_MapSeries_monoW (e : Int) (l2 : List (List Int)) (t : S89) : ∀ (ws : List ByteArray) (vs : List S27) (bad : Bool) (k : Nat), LeO (Tab.mapW k e l2 t ws vs bad) (Tab.mapW (k + 1) e l2 t ws vs bad)
  | [], vs, bad, k => LeO.refl _
  | v :: ws, vs, bad, k => by
    simp only [Tab.mapW]
    refine LeO.bind (impl_ledTo.mono _ _ _ _) (fun p => LeO.ite (impl_MapSeries_monoW e l2 t ws vs bad k) ?_)
    refine LeO.bind (impl_Fraction_timesWhole.mono _ _ _ _) (fun m => LeO.bind (impl_number.mono _ _ _) (fun i => LeO.ite ?_ (LeO.refl _)))
    exact LeO.bind (impl_Fraction_plus.mono _ _ _ _ _) (fun s => impl_MapSeries_monoW e l2 t ws _ _ k)
theorem impl_MapSeries_monoT (e : Int) (l2 : List (List Int)) : ∀ (l : List S89) (vs : List S27) (bad : Bool) (k : Nat), LeO (Tab.mapT k e l2 l vs bad) (Tab.mapT (k + 1) e l2 l vs bad)
  | [], vs, bad, k => LeO.refl _
  | t :: l, vs, bad, k => by
    simp only [Tab.mapT]
    exact LeO.bind (impl_words.mono _ _ _) (fun ws => LeO.ite (LeO.bind (impl_MapSeries_monoW e l2 t ws vs bad k) (fun r => impl_MapSeries_monoT e l2 l _ _ k)) (LeO.refl _))
/-- The series that a map makes of one, and the code. -/
def impl_MapSeries.f (k : Nat) (a0_0 : Int) (a0_1 : Int) (l0_2 : List (S89)) (a1 : Int) (l2 : List (List Int)) : Option (Int × Int × (List (S89)) × Int) := Tab.MapSeries_f k a0_0 a0_1 l0_2 a1 l2
theorem impl_MapSeries.mono : ∀ a0 a1 a2 a3 a4 k, LeO (impl_MapSeries.f k a0 a1 a2 a3 a4) (impl_MapSeries.f (k + 1) a0 a1 a2 a3 a4) := by
  intro a0 a1 a2 a3 a4 k
  unfold impl_MapSeries.f Tab.MapSeries_f
  refine LeO.bind (impl_IsSeries.mono _ _ _ _) (fun b1 => LeO.ite ?_ (LeO.refl _))
  refine LeO.bind (LeO.refl _) (fun b2 => LeO.ite ?_ (LeO.refl _))
  refine LeO.bind (LeO.refl _) (fun b3 => LeO.ite ?_ (LeO.refl _))
  refine LeO.bind (impl_allWords.mono _ _ _) (fun ws => LeO.ite ?_ (LeO.refl _))
  exact LeO.bind (impl_MapSeries_monoT a3 a4 a2 _ _ k) (fun r => LeO.refl _)
theorem impl_MapSeries.calls (k : Nat) (a0_0 : Int) (a0_1 : Int) (A0_2 : Option Addr) (c0_2 : Nat) (l0_2 : List (S89)) (a1 : Int) (A2 : Option Addr) (c2 : Nat) (l2 : List (List Int)) (r1 : Int) (r2 : Int) (r3 : List (S89)) (r4 : Int) (w : World) (hr0_2 : Kd.C k89 w A0_2 l0_2.length l0_2) (hc0_2 : l0_2.length ≤ c0_2) (hr2 : Kd.C (Kd.slice 2 (Kd.int .i64)) w A2 l2.length l2) (hc2 : l2.length ≤ c2) (h : impl_MapSeries.f k a0_0 a0_1 l0_2 a1 l2 = some (r1, r2, r3, r4)) :
    Calls Try.prog 49 #[.agg #[.int .i64 a0_0, .int .i64 a0_1, .slice A0_2 l0_2.length c0_2], .int .i64 a1, .slice A2 l2.length c2] w fun e w' => ∃ v2_ : Value, e = .returned (.tuple #[.agg #[.int .i64 r1, .int .i64 r2, v2_], .int .i64 r4]) ∧ Kd.R k89 89 w' w.heap.size (fun _ => True) v2_ r3 ∧ Below w.heap.size w w' :=
  Tab.MapSeries_calls k a0_0 a0_1 A0_2 c0_2 l0_2 a1 A2 c2 l2 r1 r2 r3 r4 w hr0_2 hc0_2 hr2 hc2 h


end Go.Proofs.Ytcklefgkbddlhaa.P
