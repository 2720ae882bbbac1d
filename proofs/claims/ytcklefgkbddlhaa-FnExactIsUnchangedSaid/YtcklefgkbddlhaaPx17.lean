/- What a call of each Go function named below comes to is what the plain Lean function beside it says. Made by a program of this session out of the print of the translation; Lean checks it. -/
import Derived.Test.YtcklefgkbddlhaaPx0
namespace Go.Proofs.Ytcklefgkbddlhaa.P
open Go.RowKit Go.Proofs.YtcklefgkbddlhaaW.PrintWords Go.Proofs.YtcklefgkbddlhaaW.PrintLast Go.Proofs.YtcklefgkbddlhaaW.PrintMore
attribute [local go_sem] max2_int min2_int max_two min_two max_three min_three max_four min_four   -- for this text's walks alone
set_option linter.unusedVariables false
set_option linter.unusedSimpArgs false


/-! ### impl_ledTo: function 150 -/
def impl_ledTo.l0 : Nat → List (List Int) → ByteArray → ByteArray → Int → Int → Int → Option (Int)
  | 0, _, _, _, _, _, _ => none
  | k + 1, x0, x1, x2, x7, x10, x11 => if x11 < x10 then (if 0 ≤ x11 then (if x11 < (x1.size : Int) then (if 0 ≤ (((bt x1 x11) - 48) % 256) then (if (((bt x1 x11) - 48) % 256) < (x0.length : Int) then (if x11 < (x2.size : Int) then (if 0 ≤ (((bt x2 x11) - 48) % 256) then (if (((bt x2 x11) - 48) % 256) < ((rd_L6 x0 (((bt x1 x11) - 48) % 256)).length : Int) then (impl_ledTo.l0 k x0 x1 x2 (wrap64 (x7 * (rd (rd_L6 x0 (((bt x1 x11) - 48) % 256)) (((bt x2 x11) - 48) % 256)))) x10 (wrap64 (x11 + 1))) else (none)) else (none)) else (none)) else (none)) else (none)) else (none)) else (none)) else (some x7)
def impl_ledTo.f (k : Nat) (l0 : List (List Int)) (a1 : ByteArray) (a2 : ByteArray) : Option (Int) := impl_ledTo.l0 k l0 a1 a2 1 (a1.size : Int) 0
theorem impl_ledTo.mono_l : ∀ k, (∀ y0 y1 y2 y3 y4 y5, LeO (impl_ledTo.l0 k y0 y1 y2 y3 y4 y5) (impl_ledTo.l0 (k + 1) y0 y1 y2 y3 y4 y5))
  | 0 => fun _ _ _ _ _ _ r h => by simp [impl_ledTo.l0] at h
  | k + 1 => by
    have ih0 := impl_ledTo.mono_l k
    · intro y0 y1 y2 y3 y4 y5
      unfold impl_ledTo.l0
      repeat' first
      | (with_reducible exact ih0 _ _ _ _ _ _)
      | (with_reducible exact LeO.refl _)
      | (with_reducible exact LeO.none _)
      | (with_reducible refine LeO.ite ?_ ?_)
      | (with_reducible refine LeO.bind ?_ (fun _ => ?_))
theorem impl_ledTo.mono : ∀ a0 a1 a2 k, LeO (impl_ledTo.f k a0 a1 a2) (impl_ledTo.f (k + 1) a0 a1 a2) := by
  intro a0 a1 a2 k
  have ih0 := impl_ledTo.mono_l k
  unfold impl_ledTo.f
  repeat' first
      | (with_reducible exact ih0 _ _ _ _ _ _)
      | (with_reducible exact LeO.refl _)
      | (with_reducible exact LeO.none _)
      | (with_reducible refine LeO.ite ?_ ?_)
      | (with_reducible refine LeO.bind ?_ (fun _ => ?_))
set_option maxHeartbeats 8000000 in
set_option maxRecDepth 100000 in
theorem impl_ledTo.calls (k : Nat) (A0 : Option Addr) (c0 : Nat) (l0 : List (List Int)) (a1 : ByteArray) (a2 : ByteArray) (r : Int) (w : World) (hr0 : Kd.C (Kd.slice 2 (Kd.int .i64)) w A0 l0.length l0) (hc0 : l0.length ≤ c0) (h : impl_ledTo.f k l0 a1 a2 = some r) :
    Calls Try.prog 150 #[.slice A0 l0.length c0, .string a1, .string a2] w fun e w' => e = .returned (.int .i64 r) ∧ Drawn0 w w' := by
  have HR0 := Aside0.mk hr0
  have HC0 := Aside0.mk hc0
  clear hr0 hc0
  have H : (impl_ledTo.l0 k l0 a1 a2 1 (a1.size : Int) 0) = some r := h
  clear h
  have H' := Aside0.mk H
  clear H
  go_enter Try.func150, Try.ntmps150
  go_wp2
  repeat (go_quiet (fail); try go_wp2)
  go_loopg [7, 11] k (fun kq v7 v11 w' => ∃ (x7_1 : Int) (x11_1 : Int), v7 = .int .i64 x7_1 ∧ v11 = .int .i64 x11_1 ∧ Aside0 (impl_ledTo.l0 kq l0 a1 a2 x7_1 (a1.size : Int) x11_1 = some r) ∧ Aside0 (kq ≤ k) ∧ Drawn0 w w')
  case atStart => exact ⟨(1), (0), (by first | rfl | (simp; done) | (simp [*]; done)), (by first | rfl | (simp; done) | (simp [*]; done)), H', ⟨Nat.le_refl _⟩, by repeat (first | exact Drawn0.refl _ | apply Drawn0.step)⟩
  case round =>
    clear H'
    obtain ⟨x7_1, x11_1, rfl, rfl, HA, HK1, ⟨m1, rfl⟩⟩ := hrel
    cases gk with
    | zero => exact absurd HA.out (by simp [impl_ledTo.l0])
    | succ k1 =>
      have H := HA.out
      clear HA
      simp only [impl_ledTo.l0] at H
      by_cases c4 : x11_1 < (a1.size : Int)
      · rw [if_pos c4] at H
        have c4b0 : decide (x11_1 < (a1.size : Int)) = true := decide_eq_true c4
        clear c4
        by_cases c5 : 0 ≤ x11_1
        · rw [if_pos c5] at H
          have c5b0 : decide (0 ≤ x11_1) = true := decide_eq_true c5
          clear c5
          by_cases c6 : x11_1 < (a1.size : Int)
          · rw [if_pos c6] at H
            have c6b0 : decide (x11_1 < (a1.size : Int)) = true := decide_eq_true c6
            clear c6
            obtain ⟨ji8, hji8⟩ : ∃ j_ : Int, (((bt a1 x11_1) - 48) % 256) = j_ := ⟨_, rfl⟩
            replace H : (if 0 ≤ (ji8) then (if (ji8) < (l0.length : Int) then (if x11_1 < (a2.size : Int) then (if 0 ≤ (((bt a2 x11_1) - 48) % 256) then (if (((bt a2 x11_1) - 48) % 256) < ((rd_L6 l0 (ji8)).length : Int) then (impl_ledTo.l0 k1 l0 a1 a2 (wrap64 (x7_1 * (rd (rd_L6 l0 (ji8)) (((bt a2 x11_1) - 48) % 256)))) (a1.size : Int) (wrap64 (x11_1 + 1))) else (none)) else (none)) else (none)) else (none)) else (none)) = some r := by first | (rw [hji8] at H; exact H) | (simp only [hji8] at H ⊢; exact H)
            by_cases c9 : 0 ≤ (ji8)
            ·rw [if_pos c9] at H
             have c9b0 : decide (0 ≤ (ji8)) = true := decide_eq_true c9
             clear c9
             by_cases c10 : (ji8) < (l0.length : Int)
             ·rw [if_pos c10] at H
              have c10b0 : decide ((ji8) < (l0.length : Int)) = true := decide_eq_true c10
              clear c10
              by_cases c11 : x11_1 < (a2.size : Int)
              ·rw [if_pos c11] at H
               have c11b0 : decide (x11_1 < (a2.size : Int)) = true := decide_eq_true c11
               clear c11
               obtain ⟨ji13, hji13⟩ : ∃ j_ : Int, (((bt a2 x11_1) - 48) % 256) = j_ := ⟨_, rfl⟩
               replace H : (if 0 ≤ (ji13) then (if (ji13) < ((rd_L6 l0 (ji8)).length : Int) then (impl_ledTo.l0 k1 l0 a1 a2 (wrap64 (x7_1 * (rd (rd_L6 l0 (ji8)) (ji13)))) (a1.size : Int) (wrap64 (x11_1 + 1))) else (none)) else (none)) = some r := by first | (rw [hji13] at H; exact H) | (simp only [hji13] at H ⊢; exact H)
               by_cases c14 : 0 ≤ (ji13)
               ·rw [if_pos c14] at H
                have c14b0 : decide (0 ≤ (ji13)) = true := decide_eq_true c14
                clear c14
                by_cases c15 : (ji13) < ((rd_L6 l0 (ji8)).length : Int)
                ·rw [if_pos c15] at H
                 have c15b0 : decide ((ji13) < ((rd_L6 l0 (ji8)).length : Int)) = true := decide_eq_true c15
                 clear c15
                 have H' := Aside0.mk H
                 clear H
                 have p7 : 0 ≤ (x11_1 : Int) := zD
                 have q7 : x11_1 < (a1.size : Int) := zD
                 have hx7 := bt_at a1 x11_1
                 replace p7 := eq_true p7
                 replace q7 := eq_true q7
                 have p426 : 0 ≤ ((ji8) : Int) := zD
                 have q426 : (ji8) < (l0.length : Int) := zD
                 obtain ⟨ad426, A426_0, c426_0, e426, hx426_0, hl426_0, hi426_0⟩ := at_L6 HR0.out (ji8) p426 q426
                 cases e426
                 have HR426_0 := Aside0.mk hi426_0
                 have HC426_0 := Aside0.mk hl426_0
                 clear hi426_0 hl426_0
                 replace p426 := eq_true p426
                 replace q426 := eq_true q426
                 have p12 : 0 ≤ (x11_1 : Int) := zD
                 have q12 : x11_1 < (a2.size : Int) := zD
                 have hx12 := bt_at a2 x11_1
                 replace p12 := eq_true p12
                 replace q12 := eq_true q12
                 have p427 : 0 ≤ ((ji13) : Int) := zD
                 have q427 : (ji13) < ((rd_L6 l0 (ji8)).length : Int) := zD
                 obtain ⟨ad427, e427, hx427_0⟩ := Kd.at_int HR426_0.out (ji13) p427 q427
                 cases e427
                 replace p427 := eq_true p427
                 replace q427 := eq_true q427
                 go_wp2
                 repeat (go_quiet (fail); try go_wp2)
                 go_roundg k1
                 case measure => have := HK1.out; omega
                 case rel => exact ⟨(wrap64 (x7_1 * (rd (rd_L6 l0 (ji8)) (ji13)))), (wrap64 (x11_1 + 1)), (by first | rfl | (simp; done) | (simp only [← hji8, ← hji13] <;> (first | rfl | simp)) | (simp [*]; done)), (by first | rfl | (simp; done) | (simp [*]; done)), H', ⟨by have := HK1.out; omega⟩, by repeat (first | exact Drawn0.refl _ | apply Drawn0.step)⟩
                ·rw [if_neg c15] at H
                 exact absurd H (by simp)
               ·rw [if_neg c14] at H
                exact absurd H (by simp)
              ·rw [if_neg c11] at H
               exact absurd H (by simp)
             ·rw [if_neg c10] at H
              exact absurd H (by simp)
            ·rw [if_neg c9] at H
             exact absurd H (by simp)
          · rw [if_neg c6] at H
            exact absurd H (by simp)
        · rw [if_neg c5] at H
          exact absurd H (by simp)
      · rw [if_neg c4] at H
        have c4b0 : decide (x11_1 < (a1.size : Int)) = false := decide_eq_false c4
        clear c4
        obtain rfl := Option.some.inj H
        go_wp2
        repeat (go_quiet (fail); try go_wp2)
        go_ret
        exact ⟨by first | rfl | (simp; done) | (simp [*]; done), by repeat (first | exact Drawn0.refl _ | apply Drawn0.step)⟩

-- NOT PRINTED: function 101 (impl_mapSeries)

end Go.Proofs.Ytcklefgkbddlhaa.P
