/- What a call of each Go function named below comes to is what the plain Lean function beside it says. Made by a program of this session out of the print of the translation; Lean checks it. -/
import Derived.Test.YtkbneilobaehkaaPx0
import Derived.Test.YtkbneilobaehkaaPx7
namespace Go.Proofs.Ytkbneilobaehkaa.P
open Go.RowKit Go.Proofs.YtkbneilobaehkaaW.PrintWords Go.Proofs.YtkbneilobaehkaaW.PrintLast Go.Proofs.YtkbneilobaehkaaW.PrintMore
attribute [local go_sem] max2_int min2_int max_two min_two max_three min_three max_four min_four   -- for this text's walks alone
set_option linter.unusedVariables false
set_option linter.unusedSimpArgs false


/-! ### spec_l08Are: function 48 -/
mutual
def spec_l08Are.j0 : Nat → List (List (List Int)) → Bool → Option (Bool)
 | 0, _, _ => none
 | k + 1, x1, x17 => if x17 = true then (some false) else (if 0 < (x1.length : Int) then (if ((rd_L4 x1 0).length : Int) < 1 then (spec_l08Are.j1 k x1 ((rd_L4 x1 0).length : Int) true) else (spec_l08Are.j1 k x1 ((rd_L4 x1 0).length : Int) (decide (((rd_L4 x1 0).length : Int) > 6)))) else (none))
def spec_l08Are.j1 : Nat → List (List (List Int)) → Int → Bool → Option (Bool)
 | 0, _, _, _ => none
 | k + 1, x1, x5, x27 => if x27 = true then (some false) else (spec_l08Are.l0 k x1 x5 0)
def spec_l08Are.l0 : Nat → List (List (List Int)) → Int → Int → Option (Bool)
 | 0, _, _, _ => none
 | k + 1, x1, x5, x6 => if x6 < (x1.length : Int) then (if 0 ≤ x6 then (if ((rd_L4 x1 x6).length : Int) = x5 then (spec_l08Are.l1 k x1 x5 x6 0) else (some false)) else (none)) else (some true)
def spec_l08Are.l1 : Nat → List (List (List Int)) → Int → Int → Int → Option (Bool)
 | 0, _, _, _, _ => none
 | k + 1, x1, x5, x6, x7 => if x7 < x5 then (if 0 ≤ x6 then (if x6 < (x1.length : Int) then (if 0 ≤ x7 then (if x7 < ((rd_L4 x1 x6).length : Int) then (if ((rd_L3 (rd_L4 x1 x6) x7).length : Int) = x5 then (spec_l08Are.l2 k x1 x5 x6 x7 0) else (some false)) else (none)) else (none)) else (none)) else (none)) else (spec_l08Are.l0 k x1 x5 (wrap64 (x6 + 1)))
def spec_l08Are.l2 : Nat → List (List (List Int)) → Int → Int → Int → Int → Option (Bool)
 | 0, _, _, _, _, _ => none
 | k + 1, x1, x5, x6, x7, x8 => if x8 < x5 then (if 0 ≤ x6 then (if x6 < (x1.length : Int) then (if 0 ≤ x7 then (if x7 < ((rd_L4 x1 x6).length : Int) then (if 0 ≤ x8 then (if x8 < ((rd_L3 (rd_L4 x1 x6) x7).length : Int) then ((spec_l01In.f (rd (rd_L3 (rd_L4 x1 x6) x7) x8) (-1000) 1000).bind fun t262 => (if t262 = true then (spec_l08Are.l2 k x1 x5 x6 x7 (wrap64 (x8 + 1))) else (some false))) else (none)) else (none)) else (none)) else (none)) else (none)) else (none)) else (spec_l08Are.l1 k x1 x5 x6 (wrap64 (x7 + 1)))
end
def spec_l08Are.f (k : Nat) (a0 : Int) (l1 : List (List (List Int))) : Option (Bool) := (spec_l01In.f a0 1 3).bind fun t254 => (if t254 = true then (spec_l08Are.j0 k l1 ((l1.length : Int) != a0)) else (spec_l08Are.j0 k l1 true))
theorem spec_l08Are.mono_l : ∀ k, (∀ y0 y1, LeO (spec_l08Are.j0 k y0 y1) (spec_l08Are.j0 (k + 1) y0 y1)) ∧ (∀ y0 y1 y2, LeO (spec_l08Are.j1 k y0 y1 y2) (spec_l08Are.j1 (k + 1) y0 y1 y2)) ∧ (∀ y0 y1 y2, LeO (spec_l08Are.l0 k y0 y1 y2) (spec_l08Are.l0 (k + 1) y0 y1 y2)) ∧ (∀ y0 y1 y2 y3, LeO (spec_l08Are.l1 k y0 y1 y2 y3) (spec_l08Are.l1 (k + 1) y0 y1 y2 y3)) ∧ (∀ y0 y1 y2 y3 y4, LeO (spec_l08Are.l2 k y0 y1 y2 y3 y4) (spec_l08Are.l2 (k + 1) y0 y1 y2 y3 y4))
 | 0 => ⟨fun _ _ r h => by simp [spec_l08Are.j0] at h, fun _ _ _ r h => by simp [spec_l08Are.j1] at h, fun _ _ _ r h => by simp [spec_l08Are.l0] at h, fun _ _ _ _ r h => by simp [spec_l08Are.l1] at h, fun _ _ _ _ _ r h => by simp [spec_l08Are.l2] at h⟩
 | k + 1 => by
  obtain ⟨ih0, ih1, ih2, ih3, ih4⟩ := spec_l08Are.mono_l k
  refine ⟨?_, ?_, ?_, ?_, ?_⟩
  ·intro y0 y1
   unfold spec_l08Are.j0
   repeat' first
   | (with_reducible exact ih0 _ _)
   | (with_reducible exact ih1 _ _ _)
   | (with_reducible exact ih2 _ _ _)
   | (with_reducible exact ih3 _ _ _ _)
   | (with_reducible exact ih4 _ _ _ _ _)
   | (with_reducible exact LeO.refl _)
   | (with_reducible exact LeO.none _)
   | (with_reducible refine LeO.ite ?_ ?_)
   | (with_reducible refine LeO.bind ?_ (fun _ => ?_))
  ·intro y0 y1 y2
   unfold spec_l08Are.j1
   repeat' first
   | (with_reducible exact ih0 _ _)
   | (with_reducible exact ih1 _ _ _)
   | (with_reducible exact ih2 _ _ _)
   | (with_reducible exact ih3 _ _ _ _)
   | (with_reducible exact ih4 _ _ _ _ _)
   | (with_reducible exact LeO.refl _)
   | (with_reducible exact LeO.none _)
   | (with_reducible refine LeO.ite ?_ ?_)
   | (with_reducible refine LeO.bind ?_ (fun _ => ?_))
  ·intro y0 y1 y2
   unfold spec_l08Are.l0
   repeat' first
   | (with_reducible exact ih0 _ _)
   | (with_reducible exact ih1 _ _ _)
   | (with_reducible exact ih2 _ _ _)
   | (with_reducible exact ih3 _ _ _ _)
   | (with_reducible exact ih4 _ _ _ _ _)
   | (with_reducible exact LeO.refl _)
   | (with_reducible exact LeO.none _)
   | (with_reducible refine LeO.ite ?_ ?_)
   | (with_reducible refine LeO.bind ?_ (fun _ => ?_))
  ·intro y0 y1 y2 y3
   unfold spec_l08Are.l1
   repeat' first
   | (with_reducible exact ih0 _ _)
   | (with_reducible exact ih1 _ _ _)
   | (with_reducible exact ih2 _ _ _)
   | (with_reducible exact ih3 _ _ _ _)
   | (with_reducible exact ih4 _ _ _ _ _)
   | (with_reducible exact LeO.refl _)
   | (with_reducible exact LeO.none _)
   | (with_reducible refine LeO.ite ?_ ?_)
   | (with_reducible refine LeO.bind ?_ (fun _ => ?_))
  ·intro y0 y1 y2 y3 y4
   unfold spec_l08Are.l2
   repeat' first
   | (with_reducible exact ih0 _ _)
   | (with_reducible exact ih1 _ _ _)
   | (with_reducible exact ih2 _ _ _)
   | (with_reducible exact ih3 _ _ _ _)
   | (with_reducible exact ih4 _ _ _ _ _)
   | (with_reducible exact LeO.refl _)
   | (with_reducible exact LeO.none _)
   | (with_reducible refine LeO.ite ?_ ?_)
   | (with_reducible refine LeO.bind ?_ (fun _ => ?_))
theorem spec_l08Are.mono : ∀ a0 a1 k, LeO (spec_l08Are.f k a0 a1) (spec_l08Are.f (k + 1) a0 a1) := by
 intro a0 a1 k
 obtain ⟨ih0, ih1, ih2, ih3, ih4⟩ := spec_l08Are.mono_l k
 unfold spec_l08Are.f
 repeat' first
  | (with_reducible exact ih0 _ _)
  | (with_reducible exact ih1 _ _ _)
  | (with_reducible exact ih2 _ _ _)
  | (with_reducible exact ih3 _ _ _ _)
  | (with_reducible exact ih4 _ _ _ _ _)
  | (with_reducible exact LeO.refl _)
  | (with_reducible exact LeO.none _)
  | (with_reducible refine LeO.ite ?_ ?_)
  | (with_reducible refine LeO.bind ?_ (fun _ => ?_))
set_option maxHeartbeats 8000000 in
set_option maxRecDepth 100000 in
theorem spec_l08Are.calls (k : Nat) (a0 : Int) (A1 : Option Addr) (c1 : Nat) (l1 : List (List (List Int))) (r : Bool) (w : World) (hr1 : Kd.C (Kd.slice 45 (Kd.slice 2 (Kd.int .i64))) w A1 l1.length l1) (hc1 : l1.length ≤ c1) (h : spec_l08Are.f k a0 l1 = some r) :
 Calls Try.prog 48 #[.int .i64 a0, .slice A1 l1.length c1] w fun e w' => e = .returned (.bool r) ∧ Drawn0 w w' := by
 have HR1 := zA hr1
 have HC1 := zA hc1
 clear hr1 hc1
 have H : ((spec_l01In.f a0 1 3).bind fun t254 => (if t254 = true then (spec_l08Are.j0 k l1 ((l1.length : Int) != a0)) else (spec_l08Are.j0 k l1 true))) = some r := h
 clear h
 have HC3 := zA H
 clear H
 go_enter Try.func48, Try.ntmps48
 go_upto_region 1 with (fail)
 go_cut [17] (fun v17 wc => ∃ (kq : Nat) (x17_2 : Bool), v17 = .bool x17_2 ∧ Aside0 (spec_l08Are.j0 kq l1 x17_2 = some r) ∧ Aside0 (kq ≤ k) ∧ Drawn0 w wc)
 case first =>
  have H := HC3.out
  clear HC3
  replace H := Option.bind_eq_some_iff.mp H
  obtain ⟨t254, A40, H⟩ := H
  replace H : (if t254 = true then (spec_l08Are.j0 k l1 ((l1.length : Int) != a0)) else (spec_l08Are.j0 k l1 true)) = some r := H
  have A4 := zA A40
  clear A40
  by_cases c5 : t254 = true
  ·subst c5
   have H1 : (spec_l08Are.j0 k l1 ((l1.length : Int) != a0)) = some r := by rw [if_pos rfl] at H; exact H
   clear H
   have H := H1
   clear H1
   have H' := zA H
   clear H
   go_wp2_with (first | ((with_reducible refine gate_callee (f := 61) rfl ?_); refine goesL_ (some 10) rfl rfl Try.func61 (by kernel_rfl) rfl #[.int .i64 a0, .int .i64 1, .int .i64 3] rfl zM ?_; (with_reducible refine (spec_l01In.calls a0 1 3 true _ A4.out).mono ?_); rintro e w' ⟨rfl, ⟨nd, rfl⟩⟩; refine ⟨_, rfl, ?_⟩))
   go_meet
   case rel => exact ⟨_, (((l1.length : Int) != a0)), (by rfl), H', ⟨by omega⟩, by repeat (first | exact Drawn0.refl _ | apply Drawn0.step)⟩
  ·replace c5 := Bool.eq_false_iff.mpr c5
   subst c5
   have H1 : (spec_l08Are.j0 k l1 true) = some r := by rw [if_neg (show ¬ (false = true) by decide)] at H; exact H
   clear H
   have H := H1
   clear H1
   have H' := zA H
   clear H
   go_wp2_with (first | ((with_reducible refine gate_callee (f := 61) rfl ?_); refine goesL_ (some 10) rfl rfl Try.func61 (by kernel_rfl) rfl #[.int .i64 a0, .int .i64 1, .int .i64 3] rfl zM ?_; (with_reducible refine (spec_l01In.calls a0 1 3 false _ A4.out).mono ?_); rintro e w' ⟨rfl, ⟨nd, rfl⟩⟩; refine ⟨_, rfl, ?_⟩))
   go_meet
   case rel => exact ⟨_, (true), (by rfl), H', ⟨by omega⟩, by repeat (first | exact Drawn0.refl _ | apply Drawn0.step)⟩
 case rest =>
  clear HC3
  try clear c1
  try clear p2
  try clear c4
  try clear c5
  obtain ⟨kq, x17_2, rfl, HA, HJ2, ⟨mc2, rfl⟩⟩ := hcut
  cases kq with
  | zero => exact absurd HA.out (by simp [spec_l08Are.j0])
  | succ kj2 =>
   have H := HA.out
   clear HA
   simp only [spec_l08Are.j0] at H
   by_cases c6 : x17_2 = true
   ·subst c6
    have H1 : (some false) = some r := by rw [if_pos rfl] at H; exact H
    clear H
    have H := H1
    clear H1
    obtain rfl := Option.some.inj H
    go_wp2
    go_ret
    exact ⟨by rfl, by repeat (first | exact Drawn0.refl _ | apply Drawn0.step)⟩
   ·replace c6 := Bool.eq_false_iff.mpr c6
    subst c6
    have H1 : (if 0 < (l1.length : Int) then (if ((rd_L4 l1 0).length : Int) < 1 then (spec_l08Are.j1 kj2 l1 ((rd_L4 l1 0).length : Int) true) else (spec_l08Are.j1 kj2 l1 ((rd_L4 l1 0).length : Int) (decide (((rd_L4 l1 0).length : Int) > 6)))) else (none)) = some r := by rw [if_neg (show ¬ (false = true) by decide)] at H; exact H
    clear H
    have H := H1
    clear H1
    by_cases c7 : 0 < (l1.length : Int)
    ·rw [if_pos c7] at H
     have c7b0 : decide (0 < (l1.length : Int)) = true := decide_eq_true c7
     have c7b1 : decide (0 < l1.length) = true := decide_eq_true (by omega)
     clear c7
     have HC8 := zA H
     clear H
     have p255 : 0 ≤ (0 : Int) := (by omega)
     have q255 : 0 < (l1.length : Int) := zD
     obtain ⟨ad255, A255_0, c255_0, e255, hx255_0, hl255_0, hi255_0⟩ := at_L4 HR1.out 0 p255 q255
     cases e255
     have qi255 : (0 < l1.length) = True := eq_true (by omega)
     (try rw [show ((0 : Int)).toNat = 0 from rfl] at hx255_0)
     (try rw [Addr.add_zero'] at hx255_0)
     have HR255_0 := zA hi255_0
     have HC255_0 := zA hl255_0
     clear hi255_0 hl255_0
     replace p255 := eq_true p255
     replace q255 := eq_true q255
     go_upto_region 4 with (fail)
     go_cut [27] (fun v27 wc => ∃ (kq : Nat) (x27_7 : Bool), v27 = .bool x27_7 ∧ Aside0 (spec_l08Are.j1 kq l1 ((rd_L4 l1 0).length : Int) x27_7 = some r) ∧ Aside0 (kq ≤ kj2) ∧ Drawn0 w wc)
     case first =>
      have H := HC8.out
      clear HC8
      by_cases c9 : ((rd_L4 l1 0).length : Int) < 1
      ·rw [if_pos c9] at H
       have c9b0 : decide (((rd_L4 l1 0).length : Int) < 1) = true := decide_eq_true c9
       have c9b1 : decide ((rd_L4 l1 0).length < 1) = true := decide_eq_true (by omega)
       clear c9
       (skip)
       have H' := zA H
       clear H
       go_wp2
       go_meet
       case rel => exact ⟨_, (true), (by rfl), H', ⟨by have := HJ2.out; omega⟩, by repeat (first | exact Drawn0.refl _ | apply Drawn0.step)⟩
      ·rw [if_neg c9] at H
       have c9b0 : decide (((rd_L4 l1 0).length : Int) < 1) = false := decide_eq_false c9
       have c9b1 : decide ((rd_L4 l1 0).length < 1) = false := decide_eq_false (by omega)
       clear c9
       (skip)
       have H' := zA H
       clear H
       go_wp2
       go_meet
       case rel => exact ⟨_, (decide (((rd_L4 l1 0).length : Int) > 6)), (by rfl), H', ⟨by have := HJ2.out; omega⟩, by repeat (first | exact Drawn0.refl _ | apply Drawn0.step)⟩
     case rest =>
      clear HC8
      try clear c1
      try clear c2
      try clear p2
      try clear q2
      try clear hx2
      try clear qi2
      try clear c4
      try clear c5
      try clear c6
      try clear c7
      try clear c7b0
      try clear c7b1
      try clear c9
      try clear c9b0
      try clear c9b1
      try clear hx255_0
      try clear p2
      try clear p255
      try clear q255
      obtain ⟨kq, x27_7, rfl, HA, HJ7, ⟨mc7, rfl⟩⟩ := hcut
      cases kq with
      | zero => exact absurd HA.out (by simp [spec_l08Are.j1])
      | succ kj7 =>
       have H := HA.out
       clear HA
       simp only [spec_l08Are.j1] at H
       by_cases c10 : x27_7 = true
       ·subst c10
        have H1 : (some false) = some r := by rw [if_pos rfl] at H; exact H
        clear H
        have H := H1
        clear H1
        obtain rfl := Option.some.inj H
        go_wp2
        go_ret
        exact ⟨by rfl, by repeat (first | exact Drawn0.refl _ | apply Drawn0.step)⟩
       ·replace c10 := Bool.eq_false_iff.mpr c10
        subst c10
        have H1 : (spec_l08Are.l0 kj7 l1 ((rd_L4 l1 0).length : Int) 0) = some r := by rw [if_neg (show ¬ (false = true) by decide)] at H; exact H
        clear H
        have H := H1
        clear H1
        have H' := zA H
        clear H
        go_wp2
        go_loopg [6] kj7 (fun kq v6 w' => ∃ (x6_3 : Int), v6 = .int .i64 x6_3 ∧ Aside0 (spec_l08Are.l0 kq l1 ((rd_L4 l1 0).length : Int) x6_3 = some r) ∧ Aside0 (kq ≤ kj7) ∧ Drawn0 w w')
        case atStart => exact ⟨(0), (by rfl), H', ⟨Nat.le_refl _⟩, by repeat (first | exact Drawn0.refl _ | apply Drawn0.step)⟩
        case round =>
         clear H'
         try clear c1
         try clear c2
         try clear p2
         try clear q2
         try clear hx2
         try clear qi2
         try clear c4
         try clear c5
         try clear c6
         try clear c7
         try clear c7b0
         try clear c7b1
         try clear c9
         try clear c9b0
         try clear c9b1
         try clear c10
         try clear hx255_0
         try clear p2
         try clear p255
         try clear q2
         try clear q255
         obtain ⟨x6_3, rfl, HA, HK3, ⟨m3, rfl⟩⟩ := hrel
         cases gk with
         | zero => exact absurd HA.out (by simp [spec_l08Are.l0])
         | succ k3 =>
          have H := HA.out
          clear HA
          simp only [spec_l08Are.l0] at H
          by_cases c11 : x6_3 < (l1.length : Int)
          ·rw [if_pos c11] at H
           have c11b0 : decide (x6_3 < (l1.length : Int)) = true := decide_eq_true c11
           clear c11
           by_cases c12 : 0 ≤ x6_3
           ·rw [if_pos c12] at H
            have c12b0 : decide (0 ≤ x6_3) = true := decide_eq_true c12
            clear c12
            by_cases c13 : ((rd_L4 l1 x6_3).length : Int) = ((rd_L4 l1 0).length : Int)
            ·rw [if_pos c13] at H
             have c13b0 : (((rd_L4 l1 x6_3).length : Int) == ((rd_L4 l1 0).length : Int)) = true := beq_iff_eq.mpr c13
             have c13b1 : (((rd_L4 l1 x6_3).length : Int) != ((rd_L4 l1 0).length : Int)) = false := bne_eq_false_iff_eq.mpr c13
             have c13b2 : ((rd_L4 l1 x6_3).length == (rd_L4 l1 0).length) = true := by (simp at c13 ⊢; omega)
             clear c13
             have H' := zA H
             clear H
             have p256 : 0 ≤ (x6_3 : Int) := zD
             have q256 : x6_3 < (l1.length : Int) := zD
             obtain ⟨ad256, A256_0, c256_0, e256, hx256_0, hl256_0, hi256_0⟩ := at_L4 HR1.out x6_3 p256 q256
             obtain rfl : ad255 = ad256 := (by injection e256)
             have HR256_0 := zA hi256_0
             have HC256_0 := zA hl256_0
             clear hi256_0 hl256_0
             replace p256 := eq_true p256
             replace q256 := eq_true q256
             go_wp2
             go_loopg [7] k3 (fun kq v7 w' => ∃ (x7_4 : Int), v7 = .int .i64 x7_4 ∧ Aside0 (spec_l08Are.l1 kq l1 ((rd_L4 l1 0).length : Int) x6_3 x7_4 = some r) ∧ Aside0 (kq ≤ k3) ∧ Drawn0 w w')
             case atStart => exact ⟨(0), (by rfl), H', ⟨Nat.le_refl _⟩, by repeat (first | exact Drawn0.refl _ | apply Drawn0.step)⟩
             case round =>
              clear H'
              try clear c1
              try clear c2
              try clear p2
              try clear q2
              try clear hx2
              try clear qi2
              try clear c4
              try clear c5
              try clear c6
              try clear c7
              try clear c7b0
              try clear c7b1
              try clear c9
              try clear c9b0
              try clear c9b1
              try clear c10
              try clear c11
              try clear c11b0
              try clear c12
              try clear c12b0
              try clear c13
              try clear c13b0
              try clear c13b1
              try clear c13b2
              try clear hx255_0
              try clear hx256_0
              try clear p2
              try clear p255
              try clear p256
              try clear q2
              try clear q255
              try clear q256
              obtain ⟨x7_4, rfl, HA, HK4, ⟨m4, rfl⟩⟩ := hrel
              cases gk with
              | zero => exact absurd HA.out (by simp [spec_l08Are.l1])
              | succ k4 =>
               have H := HA.out
               clear HA
               simp only [spec_l08Are.l1] at H
               by_cases c14 : x7_4 < ((rd_L4 l1 0).length : Int)
               ·rw [if_pos c14] at H
                have c14b0 : decide (x7_4 < ((rd_L4 l1 0).length : Int)) = true := decide_eq_true c14
                clear c14
                by_cases c15 : 0 ≤ x6_3
                ·rw [if_pos c15] at H
                 have c15b0 : decide (0 ≤ x6_3) = true := decide_eq_true c15
                 clear c15
                 by_cases c16 : x6_3 < (l1.length : Int)
                 ·rw [if_pos c16] at H
                  have c16b0 : decide (x6_3 < (l1.length : Int)) = true := decide_eq_true c16
                  clear c16
                  by_cases c17 : 0 ≤ x7_4
                  ·rw [if_pos c17] at H
                   have c17b0 : decide (0 ≤ x7_4) = true := decide_eq_true c17
                   clear c17
                   by_cases c18 : x7_4 < ((rd_L4 l1 x6_3).length : Int)
                   ·rw [if_pos c18] at H
                    have c18b0 : decide (x7_4 < ((rd_L4 l1 x6_3).length : Int)) = true := decide_eq_true c18
                    clear c18
                    by_cases c19 : ((rd_L3 (rd_L4 l1 x6_3) x7_4).length : Int) = ((rd_L4 l1 0).length : Int)
                    ·rw [if_pos c19] at H
                     have c19b0 : (((rd_L3 (rd_L4 l1 x6_3) x7_4).length : Int) == ((rd_L4 l1 0).length : Int)) = true := beq_iff_eq.mpr c19
                     have c19b1 : (((rd_L3 (rd_L4 l1 x6_3) x7_4).length : Int) != ((rd_L4 l1 0).length : Int)) = false := bne_eq_false_iff_eq.mpr c19
                     have c19b2 : ((rd_L3 (rd_L4 l1 x6_3) x7_4).length == (rd_L4 l1 0).length) = true := by (simp at c19 ⊢; omega)
                     clear c19
                     have H' := zA H
                     clear H
                     have p257 : 0 ≤ (x6_3 : Int) := zD
                     have q257 : x6_3 < (l1.length : Int) := zD
                     obtain ⟨ad257, A257_0, c257_0, e257, hx257_0, hl257_0, hi257_0⟩ := at_L4 HR1.out x6_3 p257 q257
                     obtain rfl : ad255 = ad257 := (by injection e257)
                     have HR257_0 := zA hi257_0
                     have HC257_0 := zA hl257_0
                     clear hi257_0 hl257_0
                     replace p257 := eq_true p257
                     replace q257 := eq_true q257
                     have p258 : 0 ≤ (x7_4 : Int) := zD
                     have q258 : x7_4 < ((rd_L4 l1 x6_3).length : Int) := zD
                     obtain ⟨ad258, A258_0, c258_0, e258, hx258_0, hl258_0, hi258_0⟩ := at_L3 HR257_0.out x7_4 p258 q258
                     cases e258
                     have HR258_0 := zA hi258_0
                     have HC258_0 := zA hl258_0
                     clear hi258_0 hl258_0
                     replace p258 := eq_true p258
                     replace q258 := eq_true q258
                     go_wp2
                     go_loopg [8] k4 (fun kq v8 w' => ∃ (x8_5 : Int), v8 = .int .i64 x8_5 ∧ Aside0 (spec_l08Are.l2 kq l1 ((rd_L4 l1 0).length : Int) x6_3 x7_4 x8_5 = some r) ∧ Aside0 (kq ≤ k4) ∧ Drawn0 w w')
                     case atStart => exact ⟨(0), (by rfl), H', ⟨Nat.le_refl _⟩, by repeat (first | exact Drawn0.refl _ | apply Drawn0.step)⟩
                     case round =>
                      clear H'
                      try clear c1
                      try clear c2
                      try clear p2
                      try clear q2
                      try clear hx2
                      try clear qi2
                      try clear c4
                      try clear c5
                      try clear c6
                      try clear c7
                      try clear c7b0
                      try clear c7b1
                      try clear c9
                      try clear c9b0
                      try clear c9b1
                      try clear c10
                      try clear c11
                      try clear c11b0
                      try clear c12
                      try clear c12b0
                      try clear c13
                      try clear c13b0
                      try clear c13b1
                      try clear c13b2
                      try clear c14
                      try clear c14b0
                      try clear c15
                      try clear c15b0
                      try clear c16
                      try clear c16b0
                      try clear c17
                      try clear c17b0
                      try clear c18
                      try clear c18b0
                      try clear c19
                      try clear c19b0
                      try clear c19b1
                      try clear c19b2
                      try clear hx255_0
                      try clear hx256_0
                      try clear hx257_0
                      try clear hx258_0
                      try clear p2
                      try clear p255
                      try clear p256
                      try clear p257
                      try clear p258
                      try clear q2
                      try clear q255
                      try clear q256
                      try clear q257
                      try clear q258
                      obtain ⟨x8_5, rfl, HA, HK5, ⟨m5, rfl⟩⟩ := hrel
                      cases gk with
                      | zero => exact absurd HA.out (by simp [spec_l08Are.l2])
                      | succ k5 =>
                       have H := HA.out
                       clear HA
                       simp only [spec_l08Are.l2] at H
                       by_cases c20 : x8_5 < ((rd_L4 l1 0).length : Int)
                       ·rw [if_pos c20] at H
                        have c20b0 : decide (x8_5 < ((rd_L4 l1 0).length : Int)) = true := decide_eq_true c20
                        clear c20
                        by_cases c21 : 0 ≤ x6_3
                        ·rw [if_pos c21] at H
                         have c21b0 : decide (0 ≤ x6_3) = true := decide_eq_true c21
                         clear c21
                         by_cases c22 : x6_3 < (l1.length : Int)
                         ·rw [if_pos c22] at H
                          have c22b0 : decide (x6_3 < (l1.length : Int)) = true := decide_eq_true c22
                          clear c22
                          by_cases c23 : 0 ≤ x7_4
                          ·rw [if_pos c23] at H
                           have c23b0 : decide (0 ≤ x7_4) = true := decide_eq_true c23
                           clear c23
                           by_cases c24 : x7_4 < ((rd_L4 l1 x6_3).length : Int)
                           ·rw [if_pos c24] at H
                            have c24b0 : decide (x7_4 < ((rd_L4 l1 x6_3).length : Int)) = true := decide_eq_true c24
                            clear c24
                            by_cases c25 : 0 ≤ x8_5
                            ·rw [if_pos c25] at H
                             have c25b0 : decide (0 ≤ x8_5) = true := decide_eq_true c25
                             clear c25
                             by_cases c26 : x8_5 < ((rd_L3 (rd_L4 l1 x6_3) x7_4).length : Int)
                             ·rw [if_pos c26] at H
                              have c26b0 : decide (x8_5 < ((rd_L3 (rd_L4 l1 x6_3) x7_4).length : Int)) = true := decide_eq_true c26
                              clear c26
                              replace H := Option.bind_eq_some_iff.mp H
                              obtain ⟨t262, A270, H⟩ := H
                              replace H : (if t262 = true then (spec_l08Are.l2 k5 l1 ((rd_L4 l1 0).length : Int) x6_3 x7_4 (wrap64 (x8_5 + 1))) else (some false)) = some r := H
                              have A27 := zA A270
                              clear A270
                              by_cases c28 : t262 = true
                              ·subst c28
                               have H1 : (spec_l08Are.l2 k5 l1 ((rd_L4 l1 0).length : Int) x6_3 x7_4 (wrap64 (x8_5 + 1))) = some r := by rw [if_pos rfl] at H; exact H
                               clear H
                               have H := H1
                               clear H1
                               have H' := zA H
                               clear H
                               have p259 : 0 ≤ (x6_3 : Int) := zD
                               have q259 : x6_3 < (l1.length : Int) := zD
                               obtain ⟨ad259, A259_0, c259_0, e259, hx259_0, hl259_0, hi259_0⟩ := at_L4 HR1.out x6_3 p259 q259
                               obtain rfl : ad255 = ad259 := (by injection e259)
                               have HR259_0 := zA hi259_0
                               have HC259_0 := zA hl259_0
                               clear hi259_0 hl259_0
                               replace p259 := eq_true p259
                               replace q259 := eq_true q259
                               have p260 : 0 ≤ (x7_4 : Int) := zD
                               have q260 : x7_4 < ((rd_L4 l1 x6_3).length : Int) := zD
                               obtain ⟨ad260, A260_0, c260_0, e260, hx260_0, hl260_0, hi260_0⟩ := at_L3 HR259_0.out x7_4 p260 q260
                               cases e260
                               have HR260_0 := zA hi260_0
                               have HC260_0 := zA hl260_0
                               clear hi260_0 hl260_0
                               replace p260 := eq_true p260
                               replace q260 := eq_true q260
                               have p261 : 0 ≤ (x8_5 : Int) := zD
                               have q261 : x8_5 < ((rd_L3 (rd_L4 l1 x6_3) x7_4).length : Int) := zD
                               obtain ⟨ad261, e261, hx261_0⟩ := Kd.at_int HR260_0.out x8_5 p261 q261
                               cases e261
                               replace p261 := eq_true p261
                               replace q261 := eq_true q261
                               go_wp2_with (first | ((with_reducible refine gate_callee (f := 61) rfl ?_); refine goesL_ (some 71) rfl rfl Try.func61 (by kernel_rfl) rfl #[.int .i64 (rd (rd_L3 (rd_L4 l1 x6_3) x7_4) x8_5), .int .i64 (-1000), .int .i64 1000] rfl zM ?_; (with_reducible refine (spec_l01In.calls (rd (rd_L3 (rd_L4 l1 x6_3) x7_4) x8_5) (-1000) 1000 true _ A27.out).mono ?_); rintro e w' ⟨rfl, ⟨nd, rfl⟩⟩; refine ⟨_, rfl, ?_⟩))
                               go_roundg k5
                               case measure => have := HJ2.out; have := HJ7.out; have := HK3.out; have := HK4.out; have := HK5.out; omega
                               case rel => exact ⟨(wrap64 (x8_5 + 1)), (by rfl), H', ⟨by have := HJ2.out; have := HJ7.out; have := HK3.out; have := HK4.out; have := HK5.out; omega⟩, by repeat (first | exact Drawn0.refl _ | apply Drawn0.step)⟩
                              ·replace c28 := Bool.eq_false_iff.mpr c28
                               subst c28
                               have H1 : (some false) = some r := by rw [if_neg (show ¬ (false = true) by decide)] at H; exact H
                               clear H
                               have H := H1
                               clear H1
                               obtain rfl := Option.some.inj H
                               have p259 : 0 ≤ (x6_3 : Int) := zD
                               have q259 : x6_3 < (l1.length : Int) := zD
                               obtain ⟨ad259, A259_0, c259_0, e259, hx259_0, hl259_0, hi259_0⟩ := at_L4 HR1.out x6_3 p259 q259
                               obtain rfl : ad255 = ad259 := (by injection e259)
                               have HR259_0 := zA hi259_0
                               have HC259_0 := zA hl259_0
                               clear hi259_0 hl259_0
                               replace p259 := eq_true p259
                               replace q259 := eq_true q259
                               have p260 : 0 ≤ (x7_4 : Int) := zD
                               have q260 : x7_4 < ((rd_L4 l1 x6_3).length : Int) := zD
                               obtain ⟨ad260, A260_0, c260_0, e260, hx260_0, hl260_0, hi260_0⟩ := at_L3 HR259_0.out x7_4 p260 q260
                               cases e260
                               have HR260_0 := zA hi260_0
                               have HC260_0 := zA hl260_0
                               clear hi260_0 hl260_0
                               replace p260 := eq_true p260
                               replace q260 := eq_true q260
                               have p261 : 0 ≤ (x8_5 : Int) := zD
                               have q261 : x8_5 < ((rd_L3 (rd_L4 l1 x6_3) x7_4).length : Int) := zD
                               obtain ⟨ad261, e261, hx261_0⟩ := Kd.at_int HR260_0.out x8_5 p261 q261
                               cases e261
                               replace p261 := eq_true p261
                               replace q261 := eq_true q261
                               go_wp2_with (first | ((with_reducible refine gate_callee (f := 61) rfl ?_); refine goesL_ (some 71) rfl rfl Try.func61 (by kernel_rfl) rfl #[.int .i64 (rd (rd_L3 (rd_L4 l1 x6_3) x7_4) x8_5), .int .i64 (-1000), .int .i64 1000] rfl zM ?_; (with_reducible refine (spec_l01In.calls (rd (rd_L3 (rd_L4 l1 x6_3) x7_4) x8_5) (-1000) 1000 false _ A27.out).mono ?_); rintro e w' ⟨rfl, ⟨nd, rfl⟩⟩; refine ⟨_, rfl, ?_⟩))
                               go_ret
                               exact ⟨by rfl, by repeat (first | exact Drawn0.refl _ | apply Drawn0.step)⟩
                             ·rw [if_neg c26] at H
                              exact absurd H (by simp)
                            ·rw [if_neg c25] at H
                             exact absurd H (by simp)
                           ·rw [if_neg c24] at H
                            exact absurd H (by simp)
                          ·rw [if_neg c23] at H
                           exact absurd H (by simp)
                         ·rw [if_neg c22] at H
                          exact absurd H (by simp)
                        ·rw [if_neg c21] at H
                         exact absurd H (by simp)
                       ·rw [if_neg c20] at H
                        have c20b0 : decide (x8_5 < ((rd_L4 l1 0).length : Int)) = false := decide_eq_false c20
                        clear c20
                        have H' := zA H
                        clear H
                        go_wp2
                        go_roundg k5
                        case measure => have := HJ2.out; have := HJ7.out; have := HK3.out; have := HK4.out; have := HK5.out; omega
                        case rel => exact ⟨(wrap64 (x7_4 + 1)), (by rfl), H', ⟨by have := HJ2.out; have := HJ7.out; have := HK3.out; have := HK4.out; have := HK5.out; omega⟩, by repeat (first | exact Drawn0.refl _ | apply Drawn0.step)⟩
                    ·rw [if_neg c19] at H
                     have c19b0 : (((rd_L3 (rd_L4 l1 x6_3) x7_4).length : Int) == ((rd_L4 l1 0).length : Int)) = false := beq_eq_false_iff_ne.mpr c19
                     have c19b1 : (((rd_L3 (rd_L4 l1 x6_3) x7_4).length : Int) != ((rd_L4 l1 0).length : Int)) = true := bne_iff_ne.mpr c19
                     have c19b2 : ((rd_L3 (rd_L4 l1 x6_3) x7_4).length == (rd_L4 l1 0).length) = false := by (simp at c19 ⊢; omega)
                     obtain rfl := Option.some.inj H
                     have p257 : 0 ≤ (x6_3 : Int) := zD
                     have q257 : x6_3 < (l1.length : Int) := zD
                     obtain ⟨ad257, A257_0, c257_0, e257, hx257_0, hl257_0, hi257_0⟩ := at_L4 HR1.out x6_3 p257 q257
                     obtain rfl : ad255 = ad257 := (by injection e257)
                     have HR257_0 := zA hi257_0
                     have HC257_0 := zA hl257_0
                     clear hi257_0 hl257_0
                     replace p257 := eq_true p257
                     replace q257 := eq_true q257
                     have p258 : 0 ≤ (x7_4 : Int) := zD
                     have q258 : x7_4 < ((rd_L4 l1 x6_3).length : Int) := zD
                     obtain ⟨ad258, A258_0, c258_0, e258, hx258_0, hl258_0, hi258_0⟩ := at_L3 HR257_0.out x7_4 p258 q258
                     cases e258
                     have HR258_0 := zA hi258_0
                     have HC258_0 := zA hl258_0
                     clear hi258_0 hl258_0
                     replace p258 := eq_true p258
                     replace q258 := eq_true q258
                     go_wp2
                     go_ret
                     exact ⟨by rfl, by repeat (first | exact Drawn0.refl _ | apply Drawn0.step)⟩
                   ·rw [if_neg c18] at H
                    exact absurd H (by simp)
                  ·rw [if_neg c17] at H
                   exact absurd H (by simp)
                 ·rw [if_neg c16] at H
                  exact absurd H (by simp)
                ·rw [if_neg c15] at H
                 exact absurd H (by simp)
               ·rw [if_neg c14] at H
                have c14b0 : decide (x7_4 < ((rd_L4 l1 0).length : Int)) = false := decide_eq_false c14
                clear c14
                have H' := zA H
                clear H
                go_wp2
                go_roundg k4
                case measure => have := HJ2.out; have := HJ7.out; have := HK3.out; have := HK4.out; omega
                case rel => exact ⟨(wrap64 (x6_3 + 1)), (by rfl), H', ⟨by have := HJ2.out; have := HJ7.out; have := HK3.out; have := HK4.out; omega⟩, by repeat (first | exact Drawn0.refl _ | apply Drawn0.step)⟩
            ·rw [if_neg c13] at H
             have c13b0 : (((rd_L4 l1 x6_3).length : Int) == ((rd_L4 l1 0).length : Int)) = false := beq_eq_false_iff_ne.mpr c13
             have c13b1 : (((rd_L4 l1 x6_3).length : Int) != ((rd_L4 l1 0).length : Int)) = true := bne_iff_ne.mpr c13
             have c13b2 : ((rd_L4 l1 x6_3).length == (rd_L4 l1 0).length) = false := by (simp at c13 ⊢; omega)
             obtain rfl := Option.some.inj H
             have p256 : 0 ≤ (x6_3 : Int) := zD
             have q256 : x6_3 < (l1.length : Int) := zD
             obtain ⟨ad256, A256_0, c256_0, e256, hx256_0, hl256_0, hi256_0⟩ := at_L4 HR1.out x6_3 p256 q256
             obtain rfl : ad255 = ad256 := (by injection e256)
             have HR256_0 := zA hi256_0
             have HC256_0 := zA hl256_0
             clear hi256_0 hl256_0
             replace p256 := eq_true p256
             replace q256 := eq_true q256
             go_wp2
             go_ret
             exact ⟨by rfl, by repeat (first | exact Drawn0.refl _ | apply Drawn0.step)⟩
           ·rw [if_neg c12] at H
            exact absurd H (by simp)
          ·rw [if_neg c11] at H
           have c11b0 : decide (x6_3 < (l1.length : Int)) = false := decide_eq_false c11
           clear c11
           obtain rfl := Option.some.inj H
           go_wp2
           go_ret
           exact ⟨by rfl, by repeat (first | exact Drawn0.refl _ | apply Drawn0.step)⟩
    ·rw [if_neg c7] at H
     exact absurd H (by simp)

end Go.Proofs.Ytkbneilobaehkaa.P
