/- slices.IndexFunc and slices.ContainsFunc over whole numbers, and within and upTo: what a call of them comes to. -/
import Derived.Test.YtkbneilobaehkaaPx0
import Derived.Lib.SlBy
import Derived.Lib.Walk
import Derived.Shelf.Abstract
import Derived.Lib.SliceRun
namespace Go.Proofs.Ytkbneilobaehkaa.Hand
open Go.RowKit Go.Proofs.YtkbneilobaehkaaW.PrintWords Go.Proofs.YtkbneilobaehkaaW.PrintLast Go.Proofs.YtkbneilobaehkaaW.PrintMore Go.Lib
set_option linter.unusedSimpArgs false
set_option linter.unusedVariables false

/-- Is x at most m in absolute value, as the program asks it? -/
def upToB (x m : Int) : Bool := decide (wrap64 (-m) ≤ x) && decide (x ≤ m)
set_option maxHeartbeats 1000000 in
theorem within_calls (n lo hi : Int) (w : World) :
    Calls Try.prog 52 #[.int .i64 n, .int .i64 lo, .int .i64 hi] w fun e w' => e = .returned (.bool (decide (lo ≤ n) && decide (n ≤ hi))) ∧ Drawn0 w w' := by
  by_cases h : lo ≤ n
  · have b0 : decide (lo ≤ n) = true := decide_eq_true h
    rw [b0, Bool.true_and]
    clear h
    go_enter Try.func52, Try.ntmps52
    go_wp2
    go_ret
    exact ⟨rfl, by repeat (first | exact Drawn0.refl _ | apply Drawn0.step)⟩
  · have b0 : decide (lo ≤ n) = false := decide_eq_false h
    rw [b0, Bool.false_and]
    clear h
    go_enter Try.func52, Try.ntmps52
    go_wp2
    go_ret
    exact ⟨rfl, by repeat (first | exact Drawn0.refl _ | apply Drawn0.step)⟩
set_option maxHeartbeats 1000000 in
theorem upTo_calls (x m : Int) (w : World) :
    Calls Try.prog 82 #[.int .i64 x, .int .i64 m] w fun e w' => e = .returned (.bool (upToB x m)) ∧ Drawn0 w w' := by
  unfold upToB
  go_enter Try.func82, Try.ntmps82
  go_wp2_with (go_at_call 52; refine (within_calls x (wrap64 (-m)) m _).mono ?_; rintro e w' ⟨rfl, nd, rfl⟩)
  go_ret
  exact ⟨rfl, by repeat (first | exact Drawn0.refl _ | apply Drawn0.step)⟩
/-- A function value that draws alone, at whole numbers. -/
def AskInt (P : Program) (g : Nat) (lb : Array Value) (p : Int → Bool) (w : World) : Prop :=
  ∀ (x : Int) (q : Nat), Calls P g (#[.int .i64 x] ++ lb) (w.drewN q) fun e w' => e = .returned (.bool (p x)) ∧ Drawn0 (w.drewN q) w'

set_option maxHeartbeats 2000000 in
theorem indexFunc_ints (g : Nat) (lb : Array Value) (eg : ∀ args w, (callFunc g args).run Try.prog w = .ok (.enter g args) w) (p : Int → Bool) (A : Option Addr) (c : Nat) (l : List Int) (w : World)
    (hp : AskInt Try.prog g lb p w) (hr : Kd.C (Kd.int .i64) w A l.length l) :
    Calls Try.prog 115 #[.slice A l.length c, .func (.func g) #[] lb] w fun e w' => e = .returned (.int .i64 (Lib.idxBy (fun _ y => p y) l (0 : Int))) ∧ Drawn0 w w' := by
  have hbig : l.length ≤ 9223372036854775807 := Kd.C_max hr
  have HR := Aside0.mk hr
  have HP := Aside0.mk hp
  clear hr hp
  go_enter Try.func115, Try.ntmps115
  go_wp2
  go_loopg [5, 8] l.length (fun gg _ s8 wr => ∃ kk q : Nat, kk ≤ l.length ∧ l.length - kk ≤ gg ∧ s8 = .int .i64 kk ∧ wr = w.drewN q ∧ Aside0 (∀ j, j < kk → p (l[j]!) = false))
  case atStart => exact ⟨0, 0, Nat.zero_le _, by omega, rfl, rfl, ⟨fun j hj => absurd hj (Nat.not_lt_zero _)⟩⟩
  case round =>
    obtain ⟨kk, q, hkk, hg, rfl, rfl, A0⟩ := hrel
    by_cases hlt : kk < l.length
    · have hltz : (kk : Int) < (l.length : Int) := by omega
      obtain ⟨ad, e1, hcell⟩ := Kd.at_int HR.out kk (by omega) (by omega)
      cases e1
      simp only [Int.toNat_natCast] at hcell
      have hy : rd l kk = l[kk]! := by simp [rd, hlt]
      generalize rd l kk = y at hcell hy
      have B : Aside0 (l[kk]! = y) := ⟨hy.symm⟩
      clear hy
      have hcall := HP.out y
      cases hq : p y with
      | true =>
        rw [hq] at hcall
        go_wp2_with (go_at_fn g; refine (hcall _).mono ?_; rintro e w' ⟨rfl, q', rfl⟩)
        go_ret
        refine ⟨?_, ?_⟩
        · have hi := Lib.idxBy_hit (fun _ y => p y) l l.length kk (0 : Int) hlt (Nat.le_refl _) (by show p l[kk]! = true; rw [B.out]; exact hq) A0.out
          rw [List.take_length] at hi
          rw [hi]
          rfl
        · repeat (first | exact Drawn0.refl _ | apply Drawn0.step)
      | false =>
        rw [hq] at hcall
        go_wp2_with (go_at_fn g; refine (hcall _).mono ?_; rintro e w' ⟨rfl, q', rfl⟩)
        go_roundg (l.length - (kk + 1))
        case measure => omega
        case rel =>
          refine ⟨kk + 1, _, by omega, by omega, by go_num, rfl, ⟨fun j hj => ?_⟩⟩
          by_cases e : j = kk
          · subst e
            rw [B.out]; exact hq
          · exact A0.out j (by omega)
    · have hltz : ¬ (kk : Int) < (l.length : Int) := by omega
      have : kk = l.length := by omega
      subst this
      go_wp2
      go_ret
      refine ⟨?_, ?_⟩
      · have hi := Lib.idxBy_miss (fun _ y => p y) l l.length (0 : Int) A0.out
        rw [List.take_length] at hi
        rw [hi]
        rfl
      · repeat (first | exact Drawn0.refl _ | apply Drawn0.step)

set_option maxHeartbeats 1000000 in
theorem containsFunc_ints (g : Nat) (lb : Array Value) (eg : ∀ args w, (callFunc g args).run Try.prog w = .ok (.enter g args) w) (p : Int → Bool) (A : Option Addr) (c : Nat) (l : List Int) (w : World)
    (hp : AskInt Try.prog g lb p w) (hr : Kd.C (Kd.int .i64) w A l.length l) :
    Calls Try.prog 101 #[.slice A l.length c, .func (.func g) #[] lb] w fun e w' => e = .returned (.bool (l.any p)) ∧ Drawn0 w w' := by
  rw [show l.any p = decide (0 ≤ Lib.idxBy (fun _ y => p y) l (0 : Int)) from (Lib.idxBy_nonneg_iff (fun _ y => p y) l (0 : Int)).symm]
  go_enter Try.func101, Try.ntmps101
  go_wp2_with (go_at_call 115; refine (indexFunc_ints g lb eg p A c l _ hp hr).mono ?_; rintro e w' ⟨rfl, q, rfl⟩)
  go_ret
  exact ⟨rfl, by repeat (first | exact Drawn0.refl _ | apply Drawn0.step)⟩

end Go.Proofs.Ytkbneilobaehkaa.Hand
