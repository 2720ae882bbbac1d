/- slices.IndexFunc and slices.ContainsFunc over matrices: what a call of them comes to. -/
import Derived.Test.YtkbneilobaehkaaHand
namespace Go.Proofs.Ytkbneilobaehkaa.Hand
open Go.RowKit Go.Proofs.Ytkbneilobaehkaa.P Go.Proofs.YtkbneilobaehkaaW.PrintWords Go.Proofs.YtkbneilobaehkaaW.PrintLast Go.Proofs.YtkbneilobaehkaaW.PrintMore Go.Lib
set_option linter.unusedSimpArgs false
set_option linter.unusedVariables false
/-- Row i of rows. -/
def rdR3 (xs : List (List (List Int))) (i : Int) : List (List Int) := xs.getD i.toNat ([] : List (List Int))
theorem at_rows3 {w : World} {A : Option Addr} {n : Nat} {xs : List (List (List Int))} (h : Kd.C (Kd.slice 45 (Kd.slice 2 (Kd.int .i64))) w A n xs) (i : Int) (h0 : 0 ≤ i) (h1 : i < n) : ∃ ad A0 c0, A = some ad ∧ w.cell? (ad.add i.toNat) = some (.slice A0 (rdR3 xs i).length c0) ∧ (rdR3 xs i).length ≤ c0 ∧ (Kd.slice 2 (Kd.int .i64)).C w A0 (rdR3 xs i).length (rdR3 xs i) := by
  obtain ⟨ad, c, e, _, hK, hc0⟩ := Kd.C_get h ([] : List (List Int)) i h0 h1
  have hc : ∀ j u, c[j]? = some u → w.cell? (ad.add (i.toNat * 1 + j)) = some u := hc0
  obtain ⟨A0, c0, rfl, l0, g0⟩ := hK
  exact ⟨ad, A0, c0, e, by have hq := hc 0 _ rfl; rwa [Nat.mul_one, Nat.add_zero] at hq, l0, g0⟩
/-- A function value that makes memory of its own at the most, at rows that are read. -/
def AskRow3 (P : Program) (g : Nat) (lb : Array Value) (p : List (List Int) → Bool) (w : World) : Prop :=
  ∀ (A : Option Addr) (c : Nat) (x : List (List Int)) (W : World), Below w.heap.size w W → (Kd.slice 2 (Kd.int .i64)).C W A x.length x → x.length ≤ c → Calls P g (#[.slice A x.length c] ++ lb) W fun e w' => e = .returned (.bool (p x)) ∧ Below W.heap.size W w'

set_option maxHeartbeats 2000000 in
theorem indexFunc_rows3 (g : Nat) (lb : Array Value) (eg : ∀ args w, (callFunc g args).run Try.prog w = .ok (.enter g args) w) (p : List (List Int) → Bool) (A : Option Addr) (c : Nat) (l : List (List (List Int))) (w : World)
    (hp : AskRow3 Try.prog g lb p w) (hr : Kd.C (Kd.slice 45 (Kd.slice 2 (Kd.int .i64))) w A l.length l) :
    Calls Try.prog 93 #[.slice A l.length c, .func (.func g) #[] lb] w fun e w' => e = .returned (.int .i64 (Lib.idxBy (fun _ y => p y) l [])) ∧ Below w.heap.size w w' := by
  have hbig : l.length ≤ 9223372036854775807 := Kd.C_max hr
  have HR := zA hr
  have HP := zA hp
  clear hr hp
  go_enter Try.func93, Try.ntmps93
  go_wp2
  go_loopg [5, 8] l.length (fun gg _ s8 wr => ∃ kk : Nat, kk ≤ l.length ∧ l.length - kk ≤ gg ∧ s8 = .int .i64 kk ∧ Aside0 (Below w.heap.size w wr) ∧ Aside0 (∀ j, j < kk → p (l[j]!) = false))
  case atStart => exact ⟨0, Nat.zero_le _, by omega, rfl, ⟨Below.refl _ _⟩, ⟨fun j hj => absurd hj (Nat.not_lt_zero _)⟩⟩
  case round =>
    obtain ⟨kk, hkk, hg, rfl, HB, A0⟩ := hrel
    by_cases hlt : kk < l.length
    · have hltz : (kk : Int) < (l.length : Int) := by omega
      obtain ⟨ad, B0, c0, e1, hcell0, hc0, hC0⟩ := at_rows3 HR.out kk (by omega) (by omega)
      cases e1
      have hcell := pw_cell_below HB.out hcell0
      have HC := zA (Kd.C_below hC0 HB.out)
      clear hcell0 hC0
      simp only [Int.toNat_natCast] at hcell
      have hy : rdR3 l kk = l[kk]! := by simp [rdR3, hlt]
      generalize rdR3 l kk = y at hcell hy hc0 HC
      have B : Aside0 (l[kk]! = y) := ⟨hy.symm⟩
      clear hy
      have hcall := HP.out B0 c0 y wr HB.out HC.out hc0
      cases hq : p y with
      | true =>
        rw [hq] at hcall
        have HCL := zA hcall
        clear hcall
        go_wp2_with (go_at_fn g; refine (HCL.out).mono ?_; rintro e w' ⟨rfl, hb'⟩)
        go_ret
        refine ⟨?_, ?_⟩
        · have hi := Lib.idxBy_hit (fun _ y => p y) l l.length kk [] hlt (Nat.le_refl _) (by show p l[kk]! = true; rw [B.out]; exact hq) A0.out
          rw [List.take_length] at hi
          rw [hi]
          rfl
        · exact below_step HB.out hb'
      | false =>
        rw [hq] at hcall
        have HCL := zA hcall
        clear hcall
        go_wp2_with (go_at_fn g; refine (HCL.out).mono ?_; rintro e w' ⟨rfl, hb'⟩)
        go_roundg (l.length - (kk + 1))
        case measure => omega
        case rel =>
          refine ⟨kk + 1, by omega, by omega, by go_num, ⟨below_step HB.out hb'⟩, ⟨fun j hj => ?_⟩⟩
          by_cases e : j = kk
          · subst e
            rw [B.out]; exact hq
          · exact A0.out j (by omega)
    · have hltz : ¬ (kk : Int) < (l.length : Int) := by omega
      have : kk = l.length := by omega
      subst this
      go_wp2
      go_ret
      refine ⟨?_, HB.out⟩
      have hi := Lib.idxBy_miss (fun _ y => p y) l l.length [] A0.out
      rw [List.take_length] at hi
      rw [hi]
      rfl

set_option maxHeartbeats 1000000 in
theorem containsFunc_rows3 (g : Nat) (lb : Array Value) (eg : ∀ args w, (callFunc g args).run Try.prog w = .ok (.enter g args) w) (p : List (List Int) → Bool) (A : Option Addr) (c : Nat) (l : List (List (List Int))) (w : World)
    (hp : AskRow3 Try.prog g lb p w) (hr : Kd.C (Kd.slice 45 (Kd.slice 2 (Kd.int .i64))) w A l.length l) :
    Calls Try.prog 53 #[.slice A l.length c, .func (.func g) #[] lb] w fun e w' => e = .returned (.bool (l.any p)) ∧ Below w.heap.size w w' := by
  rw [show l.any p = decide (0 ≤ Lib.idxBy (fun _ y => p y) l []) from (Lib.idxBy_nonneg_iff (fun _ y => p y) l []).symm]
  go_enter Try.func53, Try.ntmps53
  go_wp2_with (go_at_call 93; refine (indexFunc_rows3 g lb eg p A c l _ hp hr).mono ?_; rintro e w' ⟨rfl, hb⟩)
  go_ret
  exact ⟨rfl, hb⟩

end Go.Proofs.Ytkbneilobaehkaa.Hand
