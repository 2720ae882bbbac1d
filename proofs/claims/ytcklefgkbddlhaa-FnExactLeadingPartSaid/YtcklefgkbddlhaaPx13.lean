/- What a call of each Go function named below comes to is what the plain Lean function beside it says. Made by a program of this session out of the print of the translation; Lean checks it. -/
import Derived.Test.YtcklefgkbddlhaaPx0
import Derived.Test.YtcklefgkbddlhaaPx9
import Derived.Test.YtcklefgkbddlhaaPx10
import Derived.Test.YtcklefgkbddlhaaPx11
import Derived.Test.YtcklefgkbddlhaaPx12
import Derived.Test.YtcklefgkbddlhaaTabR
namespace Go.Proofs.Ytcklefgkbddlhaa.P
open Go.RowKit Go.Proofs.YtcklefgkbddlhaaW.PrintWords Go.Proofs.YtcklefgkbddlhaaW.PrintLast Go.Proofs.YtcklefgkbddlhaaW.PrintMore
attribute [local go_sem] max2_int min2_int max_two min_two max_three min_three max_four min_four   -- for this text's walks alone
set_option linter.unusedVariables false
set_option linter.unusedSimpArgs false


/-! ### impl_SignatureOfWord: function 33, by hand -/
theorem impl_SignatureOfWord_monoI (d : Int) (w : ByteArray) (ts us : List S27) : ∀ (e i : Nat) (vs : List S27) (bad : Bool) (k : Nat), LeO (Tab.timesI k d w ts us e i vs bad) (Tab.timesI (k + 1) d w ts us e i vs bad)
  | 0, i, vs, bad, k => LeO.refl _
  | e + 1, i, vs, bad, k => by
    simp only [Tab.timesI]
    refine LeO.bind (impl_number.mono _ _ _) (fun p => LeO.bind (impl_number.mono _ _ _) (fun q => LeO.ite (LeO.ite (impl_SignatureOfWord_monoI d w ts us e (i + 1) vs bad k) ?_) (LeO.refl _)))
    refine LeO.bind (impl_Fraction_times.mono _ _ _ _ _) (fun m => LeO.bind (impl_number.mono _ _ _) (fun j => LeO.ite ?_ (LeO.refl _)))
    exact LeO.bind (impl_Fraction_plus.mono _ _ _ _ _) (fun s => impl_SignatureOfWord_monoI d w ts us e (i + 1) _ _ k)
theorem impl_SignatureOfWord_monoO (d : Int) (ts us : List S27) : ∀ (l : List ByteArray) (vs : List S27) (bad : Bool) (k : Nat), LeO (Tab.timesO k d ts us l vs bad) (Tab.timesO (k + 1) d ts us l vs bad)
  | [], vs, bad, k => LeO.refl _
  | w :: l, vs, bad, k => by
    simp only [Tab.timesO]
    exact LeO.bind (impl_SignatureOfWord_monoI d w ts us _ _ vs bad k) (fun r => impl_SignatureOfWord_monoO d ts us l _ _ k)
theorem impl_SignatureOfWord_monoS (ts us : List S27) : ∀ (e i : Nat) (vs : List S27) (bad : Bool) (k : Nat), LeO (Tab.sumL k ts us e i vs bad) (Tab.sumL (k + 1) ts us e i vs bad)
  | 0, i, vs, bad, k => LeO.refl _
  | e + 1, i, vs, bad, k => by
    simp only [Tab.sumL]
    exact LeO.bind (impl_Fraction_plus.mono _ _ _ _ _) (fun s => impl_SignatureOfWord_monoS ts us e _ _ _ k)
theorem impl_SignatureOfWord_monoC (ts : List S27) (a0 a1 : Int) : ∀ (e i : Nat) (vs : List S27) (bad : Bool) (k : Nat), LeO (Tab.scaledL k ts a0 a1 e i vs bad) (Tab.scaledL (k + 1) ts a0 a1 e i vs bad)
  | 0, i, vs, bad, k => LeO.refl _
  | e + 1, i, vs, bad, k => by
    simp only [Tab.scaledL]
    exact LeO.bind (impl_Fraction_times.mono _ _ _ _ _) (fun s => impl_SignatureOfWord_monoC ts a0 a1 e _ _ _ k)
theorem impl_SignatureOfWord_monoP (d : Int) (ws : List ByteArray) (ts : List S27) (bt : Bool) : ∀ (e i : Nat) (os : List S27) (bo : Bool) (ps : List S27) (bp : Bool) (k : Nat), LeO (Tab.powersL k d ws ts bt e i os bo ps bp) (Tab.powersL (k + 1) d ws ts bt e i os bo ps bp)
  | 0, i, os, bo, ps, bp, k => LeO.refl _
  | e + 1, i, os, bo, ps, bp, k => by
    simp only [Tab.powersL, Tab.nextP]
    refine LeO.bind (LeO.ite (LeO.refl _) (impl_SignatureOfWord_monoO d ps ts ws _ _ k)) (fun p => LeO.ite ?_ (LeO.refl _))
    refine LeO.bind (impl_factorial.mono _ _) (fun f => LeO.bind (impl_SignatureOfWord_monoC p.1 1 f _ _ _ _ k) (fun s => LeO.ite ?_ (LeO.refl _)))
    exact LeO.bind (impl_SignatureOfWord_monoS os s.1 _ _ _ _ k) (fun o => LeO.ite (impl_SignatureOfWord_monoP d ws ts bt e (i + 1) _ _ _ _ k) (LeO.refl _))
theorem impl_SignatureOfWord_monoG (d : Int) (N : Nat) (ws : List ByteArray) : ∀ (p : List (List Int)) (os : List S27) (bo : Bool) (k : Nat), LeO (Tab.sigL k d N ws p os bo) (Tab.sigL (k + 1) d N ws p os bo)
  | [], os, bo, k => LeO.refl _
  | l :: p, os, bo, k => by
    simp only [Tab.sigL]
    refine LeO.ite ?_ (LeO.refl _)
    exact LeO.bind (impl_SignatureOfWord_monoP d ws _ _ _ _ _ _ _ _ k) (fun e => LeO.bind (impl_SignatureOfWord_monoO d os e.1 ws _ _ k) (fun o => impl_SignatureOfWord_monoG d N ws p _ _ k))
/-- The signature of a group word, and the code. -/
def impl_SignatureOfWord.f (k : Nat) (a0 : Int) (a1 : Int) (l2 : List Int) : Option (Int × Int × (List (S89)) × Int) := Tab.SignatureOfWord_f k a0 a1 l2
theorem impl_SignatureOfWord.mono : ∀ a0 a1 a2 k, LeO (impl_SignatureOfWord.f k a0 a1 a2) (impl_SignatureOfWord.f (k + 1) a0 a1 a2) := by
  intro a0 a1 a2 k
  unfold impl_SignatureOfWord.f Tab.SignatureOfWord_f
  refine LeO.bind (LeO.refl _) (fun b1 => LeO.ite ?_ (LeO.refl _))
  refine LeO.bind (LeO.refl _) (fun b2 => LeO.ite ?_ (LeO.refl _))
  refine LeO.bind (impl_pathOfWord.mono _ _ _) (fun p => LeO.bind (impl_allWords.mono _ _ _) (fun ws => LeO.ite ?_ (LeO.refl _)))
  exact LeO.bind (impl_SignatureOfWord_monoG a0 _ ws p _ _ k) (fun r => LeO.refl _)
theorem impl_SignatureOfWord.calls (k : Nat) (a0 : Int) (a1 : Int) (A2 : Option Addr) (c2 : Nat) (l2 : List Int) (r1 : Int) (r2 : Int) (r3 : List (S89)) (r4 : Int) (w : World) (hr2 : Kd.C (Kd.int .i64) w A2 l2.length l2) (hc2 : l2.length ≤ c2) (h : impl_SignatureOfWord.f k a0 a1 l2 = some (r1, r2, r3, r4)) :
    Calls Try.prog 33 #[.int .i64 a0, .int .i64 a1, .slice A2 l2.length c2] w fun e w' => ∃ v2_ : Value, e = .returned (.tuple #[.agg #[.int .i64 r1, .int .i64 r2, v2_], .int .i64 r4]) ∧ Kd.R k89 89 w' w.heap.size (fun _ => True) v2_ r3 ∧ Below w.heap.size w w' :=
  Tab.SignatureOfWord_calls k a0 a1 A2 c2 l2 r1 r2 r3 r4 w hr2 hc2 h


end Go.Proofs.Ytcklefgkbddlhaa.P
