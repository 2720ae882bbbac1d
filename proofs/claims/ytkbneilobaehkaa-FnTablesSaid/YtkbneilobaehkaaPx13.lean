/- What a call of each Go function named below comes to is what the plain Lean function beside it says. Made by a program of this session out of the print of the translation; Lean checks it. -/
import Derived.Test.YtkbneilobaehkaaPx0
import Derived.Test.YtkbneilobaehkaaPx2
import Derived.Test.YtkbneilobaehkaaPx5
import Derived.Test.YtkbneilobaehkaaPx6
import Derived.Test.YtkbneilobaehkaaPx7
import Derived.Test.YtkbneilobaehkaaPx8
import Derived.Test.YtkbneilobaehkaaPx11
namespace Go.Proofs.Ytkbneilobaehkaa.P
open Go.RowKit Go.Proofs.YtkbneilobaehkaaW.PrintWords Go.Proofs.YtkbneilobaehkaaW.PrintLast Go.Proofs.YtkbneilobaehkaaW.PrintMore
attribute [local go_sem] max2_int min2_int max_two min_two max_three min_three max_four min_four   -- for this text's walks alone
set_option linter.unusedVariables false
set_option linter.unusedSimpArgs false
set_option maxHeartbeats 8000000
set_option maxRecDepth 100000


/-! ### spec_VanishAt: function 15 -/
mutual
def spec_VanishAt.l0 : Nat → List (List (List Int)) → List ByteArray → Bool → Int → Option (Bool × Int)
 | 0, _, _, _, _ => none
 | k + 1, x1, x8, x9, x10 => if x10 < (x8.length : Int) then (if 0 ≤ x10 then ((spec_l08Product.f k x1 (rdOf ByteArray.empty x8 x10)).bind fun bt378 => (if bt378.2 = true then (spec_VanishAt.l1 k x1 x8 x9 x10 bt378.1 0) else (some (false, 3)))) else (none)) else (some (x9, 0))
def spec_VanishAt.l1 : Nat → List (List (List Int)) → List ByteArray → Bool → Int → List (List Int) → Int → Option (Bool × Int)
 | 0, _, _, _, _, _, _ => none
 | k + 1, x1, x8, x9, x10, x11, x13 => if x13 < (x11.length : Int) then (spec_VanishAt.l2 k x1 x8 x9 x10 x11 x13 0) else (spec_VanishAt.l0 k x1 x8 x9 (wrap64 (x10 + 1)))
def spec_VanishAt.l2 : Nat → List (List (List Int)) → List ByteArray → Bool → Int → List (List Int) → Int → Int → Option (Bool × Int)
 | 0, _, _, _, _, _, _, _ => none
 | k + 1, x1, x8, x9, x10, x11, x13, x14 => if x14 < (x11.length : Int) then (if x9 = true then (if 0 ≤ x13 then (if x13 < (x11.length : Int) then (if 0 ≤ x14 then (if x14 < ((rd_L3 x11 x13).length : Int) then (spec_VanishAt.l2 k x1 x8 ((rd (rd_L3 x11 x13) x14) == 0) x10 x11 x13 (wrap64 (x14 + 1))) else (none)) else (none)) else (none)) else (none)) else (spec_VanishAt.l2 k x1 x8 false x10 x11 x13 (wrap64 (x14 + 1)))) else (spec_VanishAt.l1 k x1 x8 x9 x10 x11 (wrap64 (x13 + 1)))
end
def spec_VanishAt.f (k : Nat) (a0 : Int) (l1 : List (List (List Int))) (a2 : Int) : Option (Bool × Int) := (spec_l08Are.f k a0 l1).bind fun t372 => (if t372 = true then ((spec_l01In.f a2 0 4).bind fun t373 => (if t373 = true then ((spec_l01Words.f k a0 (wrap64 (a2 + 1))).bind fun t374 => (spec_VanishAt.l0 k l1 t374 true 0)) else (some (false, 2)))) else (some (false, 1)))
theorem spec_VanishAt.mono_l : ∀ k, (∀ y0 y1 y2 y3, LeO (spec_VanishAt.l0 k y0 y1 y2 y3) (spec_VanishAt.l0 (k + 1) y0 y1 y2 y3)) ∧ (∀ y0 y1 y2 y3 y4 y5, LeO (spec_VanishAt.l1 k y0 y1 y2 y3 y4 y5) (spec_VanishAt.l1 (k + 1) y0 y1 y2 y3 y4 y5)) ∧ (∀ y0 y1 y2 y3 y4 y5 y6, LeO (spec_VanishAt.l2 k y0 y1 y2 y3 y4 y5 y6) (spec_VanishAt.l2 (k + 1) y0 y1 y2 y3 y4 y5 y6))
 | 0 => ⟨fun _ _ _ _ r h => by simp [spec_VanishAt.l0] at h, fun _ _ _ _ _ _ r h => by simp [spec_VanishAt.l1] at h, fun _ _ _ _ _ _ _ r h => by simp [spec_VanishAt.l2] at h⟩
 | k + 1 => by
  obtain ⟨ih0, ih1, ih2⟩ := spec_VanishAt.mono_l k
  refine ⟨?_, ?_, ?_⟩
  ·intro y0 y1 y2 y3
   unfold spec_VanishAt.l0
   repeat' first
   | (with_reducible exact ih0 _ _ _ _)
   | (with_reducible exact ih1 _ _ _ _ _ _)
   | (with_reducible exact ih2 _ _ _ _ _ _ _)
   | (with_reducible exact spec_l01Words.mono _ _ _)
   | (with_reducible exact spec_l08Are.mono _ _ _)
   | (with_reducible exact spec_l08Product.mono _ _ _)
   | (with_reducible exact LeO.refl _)
   | (with_reducible exact LeO.none _)
   | (with_reducible refine LeO.ite ?_ ?_)
   | (with_reducible refine LeO.bind ?_ (fun _ => ?_))
  ·intro y0 y1 y2 y3 y4 y5
   unfold spec_VanishAt.l1
   repeat' first
   | (with_reducible exact ih0 _ _ _ _)
   | (with_reducible exact ih1 _ _ _ _ _ _)
   | (with_reducible exact ih2 _ _ _ _ _ _ _)
   | (with_reducible exact spec_l01Words.mono _ _ _)
   | (with_reducible exact spec_l08Are.mono _ _ _)
   | (with_reducible exact spec_l08Product.mono _ _ _)
   | (with_reducible exact LeO.refl _)
   | (with_reducible exact LeO.none _)
   | (with_reducible refine LeO.ite ?_ ?_)
   | (with_reducible refine LeO.bind ?_ (fun _ => ?_))
  ·intro y0 y1 y2 y3 y4 y5 y6
   unfold spec_VanishAt.l2
   repeat' first
   | (with_reducible exact ih0 _ _ _ _)
   | (with_reducible exact ih1 _ _ _ _ _ _)
   | (with_reducible exact ih2 _ _ _ _ _ _ _)
   | (with_reducible exact spec_l01Words.mono _ _ _)
   | (with_reducible exact spec_l08Are.mono _ _ _)
   | (with_reducible exact spec_l08Product.mono _ _ _)
   | (with_reducible exact LeO.refl _)
   | (with_reducible exact LeO.none _)
   | (with_reducible refine LeO.ite ?_ ?_)
   | (with_reducible refine LeO.bind ?_ (fun _ => ?_))
theorem spec_VanishAt.mono : ∀ a0 a1 a2 k, LeO (spec_VanishAt.f k a0 a1 a2) (spec_VanishAt.f (k + 1) a0 a1 a2) := by
 intro a0 a1 a2 k
 obtain ⟨ih0, ih1, ih2⟩ := spec_VanishAt.mono_l k
 unfold spec_VanishAt.f
 repeat' first
  | (with_reducible exact ih0 _ _ _ _)
  | (with_reducible exact ih1 _ _ _ _ _ _)
  | (with_reducible exact ih2 _ _ _ _ _ _ _)
  | (with_reducible exact spec_l01Words.mono _ _ _)
  | (with_reducible exact spec_l08Are.mono _ _ _)
  | (with_reducible exact spec_l08Product.mono _ _ _)
  | (with_reducible exact LeO.refl _)
  | (with_reducible exact LeO.none _)
  | (with_reducible refine LeO.ite ?_ ?_)
  | (with_reducible refine LeO.bind ?_ (fun _ => ?_))
theorem spec_VanishAt.calls (k : Nat) (a0 : Int) (A1 : Option Addr) (c1 : Nat) (l1 : List (List (List Int))) (a2 : Int) (r1 : Bool) (r2 : Int) (w : World) (hr1 : Kd.C (Kd.slice 45 (Kd.slice 2 (Kd.int .i64))) w A1 l1.length l1) (hc1 : l1.length ≤ c1) (h : spec_VanishAt.f k a0 l1 a2 = some (r1, r2)) :
 Calls Try.prog 15 #[.int .i64 a0, .slice A1 l1.length c1, .int .i64 a2] w fun e w' => e = .returned (.tuple #[.bool r1, .int .i64 r2]) ∧ Below w.heap.size w w' := by
 have HR1 := zA hr1
 have HC1 := zA hc1
 clear hr1 hc1
 have HB := zA (Below.refl w.heap.size w)
 have H : ((spec_l08Are.f k a0 l1).bind fun t372 => (if t372 = true then ((spec_l01In.f a2 0 4).bind fun t373 => (if t373 = true then ((spec_l01Words.f k a0 (wrap64 (a2 + 1))).bind fun t374 => (spec_VanishAt.l0 k l1 t374 true 0)) else (some (false, 2)))) else (some (false, 1)))) = some (r1, r2) := h
 clear h
 replace H := Option.bind_eq_some_iff.mp H
 obtain ⟨t372, A40, H⟩ := H
 replace H : (if t372 = true then ((spec_l01In.f a2 0 4).bind fun t373 => (if t373 = true then ((spec_l01Words.f k a0 (wrap64 (a2 + 1))).bind fun t374 => (spec_VanishAt.l0 k l1 t374 true 0)) else (some (false, 2)))) else (some (false, 1))) = some (r1, r2) := H
 have A4 := zA A40
 clear A40
 by_cases c5 : t372 = true
 ·subst c5
  have H1 : ((spec_l01In.f a2 0 4).bind fun t373 => (if t373 = true then ((spec_l01Words.f k a0 (wrap64 (a2 + 1))).bind fun t374 => (spec_VanishAt.l0 k l1 t374 true 0)) else (some (false, 2)))) = some (r1, r2) := by rw [if_pos rfl] at H; exact H
  clear H
  have H := H1
  clear H1
  replace H := Option.bind_eq_some_iff.mp H
  obtain ⟨t373, A60, H⟩ := H
  replace H : (if t373 = true then ((spec_l01Words.f k a0 (wrap64 (a2 + 1))).bind fun t374 => (spec_VanishAt.l0 k l1 t374 true 0)) else (some (false, 2))) = some (r1, r2) := H
  have A6 := zA A60
  clear A60
  by_cases c7 : t373 = true
  ·subst c7
   have H1 : ((spec_l01Words.f k a0 (wrap64 (a2 + 1))).bind fun t374 => (spec_VanishAt.l0 k l1 t374 true 0)) = some (r1, r2) := by rw [if_pos rfl] at H; exact H
   clear H
   have H := H1
   clear H1
   replace H := Option.bind_eq_some_iff.mp H
   obtain ⟨t374, A80, H⟩ := H
   replace H : (spec_VanishAt.l0 k l1 t374 true 0) = some (r1, r2) := H
   have A8 := zA A80
   clear A80
   have H' := zA H
   clear H
   go_enter Try.func15, Try.ntmps15
   go_wp2_with (first | ((with_reducible refine gate_callee (f := 48) rfl ?_); refine goesL_ (some 18) rfl rfl Try.func48 (by kernel_rfl) rfl #[.int .i64 a0, .slice A1 l1.length c1] rfl zM ?_; (with_reducible refine (spec_l08Are.calls k a0 _ _ l1 true _ ?side1 ?side2 A4.out).mono ?_); (case side1 => repeat (exact HR1.out)); (case side2 => exact HC1.out); rintro e w' ⟨rfl, ⟨nd, rfl⟩⟩; refine ⟨_, rfl, ?_⟩) | ((with_reducible refine gate_callee (f := 61) rfl ?_); refine goesL_ (some 22) rfl rfl Try.func61 (by kernel_rfl) rfl #[.int .i64 a2, .int .i64 0, .int .i64 4] rfl zM ?_; (with_reducible refine (spec_l01In.calls a2 0 4 true _ A6.out).mono ?_); rintro e w' ⟨rfl, ⟨nd, rfl⟩⟩; refine ⟨_, rfl, ?_⟩) | ((with_reducible refine gate_callee (f := 62) rfl ?_); refine goesL_ (some 27) rfl rfl Try.func62 (by kernel_rfl) rfl #[.int .i64 a0, .int .i64 (wrap64 (a2 + 1))] rfl zM ?_; (with_reducible refine (spec_l01Words.calls k a0 (wrap64 (a2 + 1)) t374 _ A8.out).mono ?_); rintro e w9 ⟨v375, rfl, ho0, hb⟩; refine ⟨_, rfl, ?_⟩; have HO376 := zA (Kd.R_lower ho0 (below_size zB)); replace HB := zA (below_step zB hb); (try clear hb); (try clear hb2); (try clear hk); (try clear hi); (try clear ho0)))
   go_loopg [9, 10] k (fun kq v9 v10 w' => ∃ (x9_1 : Bool) (x10_1 : Int), v9 = .bool x9_1 ∧ v10 = .int .i64 x10_1 ∧ Aside0 (spec_VanishAt.l0 kq l1 t374 x9_1 x10_1 = some (r1, r2)) ∧ Aside0 (kq ≤ k) ∧ Aside0 (Kd.R Kd.string 9 w' w.heap.size (fun _ => True) v375 t374) ∧ Aside0 (Below w.heap.size w w'))
   case atStart => exact ⟨(true), (0), (by rfl), (by rfl), H', ⟨Nat.le_refl _⟩, ⟨zR⟩, ⟨zB⟩⟩
   case round =>
    clear H'
    obtain ⟨x9_1, x10_1, rfl, rfl, HA, HK1, HO_8, HB⟩ := hrel
    cases gk with
    | zero => exact absurd HA.out (by simp [spec_VanishAt.l0])
    | succ k1 =>
     have H := HA.out
     clear HA
     simp only [spec_VanishAt.l0] at H
     by_cases c10 : x10_1 < (t374.length : Int)
     ·rw [if_pos c10] at H
      have c10b0 : decide (x10_1 < (t374.length : Int)) = true := decide_eq_true c10
      clear c10
      by_cases c11 : 0 ≤ x10_1
      ·rw [if_pos c11] at H
       have c11b0 : decide (0 ≤ x10_1) = true := decide_eq_true c11
       clear c11
       replace H := Option.bind_eq_some_iff.mp H
       obtain ⟨⟨t378, t379⟩, A120, H⟩ := H
       replace H : (if t379 = true then (spec_VanishAt.l1 k1 l1 t374 x9_1 x10_1 t378 0) else (some (false, 3))) = some (r1, r2) := H
       have A12 := zA A120
       clear A120
       by_cases c13 : t379 = true
       ·subst c13
        have H1 : (spec_VanishAt.l1 k1 l1 t374 x9_1 x10_1 t378 0) = some (r1, r2) := by rw [if_pos rfl] at H; exact H
        clear H
        have H := H1
        clear H1
        have H' := zA H
        clear H
        obtain ⟨Ao14, co14, eo14⟩ := Kd.R_slice HO_8.out
        subst eo14
        have p377 : 0 ≤ (x10_1 : Int) := zD
        have q377 : x10_1 < (t374.length : Int) := zD
        obtain ⟨ad377, e377, hx377_0⟩ := Kd.at_string (Kd.R_reads' HO_8.out).2.2 x10_1 p377 q377
        cases e377
        replace p377 := eq_true p377
        replace q377 := eq_true q377
        go_wp2_with (first | ((with_reducible refine gate_callee (f := 50) rfl ?_); refine goesL_ (some 40) rfl rfl Try.func50 (by kernel_rfl) rfl #[.slice A1 l1.length c1, .string (rdOf ByteArray.empty t374 x10_1)] rfl zM ?_; (with_reducible refine (spec_l08Product.calls k1 _ _ l1 (rdOf ByteArray.empty t374 x10_1) t378 true _ ?side1 ?side2 A12.out).mono ?_); (case side1 => repeat (exact (Kd.C_below HR1.out HB.out))); (case side2 => exact HC1.out); rintro e w15 ⟨v380, rfl, ho0, hb⟩; refine ⟨_, rfl, ?_⟩; have HO381 := zA (Kd.S_lower ho0 (below_size zB)); replace HO_8 := zA (Kd.R_below HO_8.out hb); replace HB := zA (below_step zB hb); (try clear hb); (try clear hb2); (try clear hk); (try clear hi); (try clear ho0)))
        go_loopg [9, 13] k1 (fun kq v9 v13 w' => ∃ (x9_2 : Bool) (x13_2 : Int), v9 = .bool x9_2 ∧ v13 = .int .i64 x13_2 ∧ Aside0 (spec_VanishAt.l1 kq l1 t374 x9_2 x10_1 t378 x13_2 = some (r1, r2)) ∧ Aside0 (kq ≤ k1) ∧ Aside0 (Kd.R Kd.string 9 w' w.heap.size (fun _ => True) (.slice (some ad377) t374.length co14) t374) ∧ Aside0 (Kd.S (Kd.slice 2 (Kd.int .i64)) 45 w' w.heap.size (fun _ => True) v380 t378) ∧ Aside0 (Below w.heap.size w w'))
        case atStart => exact ⟨(x9_1), (0), (by rfl), (by rfl), H', ⟨Nat.le_refl _⟩, ⟨zR⟩, ⟨zS⟩, ⟨zB⟩⟩
        case round =>
         clear H'
         obtain ⟨x9_2, x13_2, rfl, rfl, HA, HK2, HO_8, HO_11, HB⟩ := hrel
         cases gk with
         | zero => exact absurd HA.out (by simp [spec_VanishAt.l1])
         | succ k2 =>
          have H := HA.out
          clear HA
          simp only [spec_VanishAt.l1] at H
          by_cases c16 : x13_2 < (t378.length : Int)
          ·rw [if_pos c16] at H
           have c16b0 : decide (x13_2 < (t378.length : Int)) = true := decide_eq_true c16
           clear c16
           have H' := zA H
           clear H
           obtain ⟨Ao17, co17, eo17⟩ := Kd.S_slice HO_11.out
           subst eo17
           go_wp2
           go_loopg [9, 14] k2 (fun kq v9 v14 w' => ∃ (x9_3 : Bool) (x14_3 : Int), v9 = .bool x9_3 ∧ v14 = .int .i64 x14_3 ∧ Aside0 (spec_VanishAt.l2 kq l1 t374 x9_3 x10_1 t378 x13_2 x14_3 = some (r1, r2)) ∧ Aside0 (kq ≤ k2) ∧ Aside0 (Kd.R Kd.string 9 w' w.heap.size (fun _ => True) (.slice (some ad377) t374.length co14) t374) ∧ Aside0 (Kd.S (Kd.slice 2 (Kd.int .i64)) 45 w' w.heap.size (fun _ => True) (.slice Ao17 t378.length co17) t378) ∧ Aside0 (Below w.heap.size w w'))
           case atStart => exact ⟨(x9_2), (0), (by rfl), (by rfl), H', ⟨Nat.le_refl _⟩, ⟨zR⟩, ⟨zS⟩, ⟨zB⟩⟩
           case round =>
            clear H'
            obtain ⟨x9_3, x14_3, rfl, rfl, HA, HK3, HO_8, HO_11, HB⟩ := hrel
            cases gk with
            | zero => exact absurd HA.out (by simp [spec_VanishAt.l2])
            | succ k3 =>
             have H := HA.out
             clear HA
             simp only [spec_VanishAt.l2] at H
             by_cases c18 : x14_3 < (t378.length : Int)
             ·rw [if_pos c18] at H
              have c18b0 : decide (x14_3 < (t378.length : Int)) = true := decide_eq_true c18
              clear c18
              by_cases c19 : x9_3 = true
              ·subst c19
               have H1 : (if 0 ≤ x13_2 then (if x13_2 < (t378.length : Int) then (if 0 ≤ x14_3 then (if x14_3 < ((rd_L3 t378 x13_2).length : Int) then (spec_VanishAt.l2 k3 l1 t374 ((rd (rd_L3 t378 x13_2) x14_3) == 0) x10_1 t378 x13_2 (wrap64 (x14_3 + 1))) else (none)) else (none)) else (none)) else (none)) = some (r1, r2) := by rw [if_pos rfl] at H; exact H
               clear H
               have H := H1
               clear H1
               by_cases c20 : 0 ≤ x13_2
               ·rw [if_pos c20] at H
                have c20b0 : decide (0 ≤ x13_2) = true := decide_eq_true c20
                clear c20
                by_cases c21 : x13_2 < (t378.length : Int)
                ·rw [if_pos c21] at H
                 have c21b0 : decide (x13_2 < (t378.length : Int)) = true := decide_eq_true c21
                 clear c21
                 by_cases c22 : 0 ≤ x14_3
                 ·rw [if_pos c22] at H
                  have c22b0 : decide (0 ≤ x14_3) = true := decide_eq_true c22
                  clear c22
                  by_cases c23 : x14_3 < ((rd_L3 t378 x13_2).length : Int)
                  ·rw [if_pos c23] at H
                   have c23b0 : decide (x14_3 < ((rd_L3 t378 x13_2).length : Int)) = true := decide_eq_true c23
                   clear c23
                   have H' := zA H
                   clear H
                   have p382 : 0 ≤ (x13_2 : Int) := zD
                   have q382 : x13_2 < (t378.length : Int) := zD
                   obtain ⟨ad382, A382_0, c382_0, e382, hx382_0, hl382_0, hi382_0⟩ := at_L3 (Kd.S_reads' HO_11.out).2.2 x13_2 p382 q382
                   cases e382
                   obtain ⟨ce382, hce382, hMe382, hcc382⟩ := Kd.S_get HO_11.out [] x13_2 p382 (by exact q382)
                   obtain ⟨ve382_0, rfl, ge382_0⟩ := hMe382
                   have hv382_0 := hcc382 0 _ rfl
                   rw [Nat.add_zero, show ((Kd.slice 2 (Kd.int .i64))).sz = 1 from rfl, Nat.mul_one] at hv382_0
                   replace hv382_0 := Option.some.inj (hv382_0.symm.trans hx382_0)
                   rw [hv382_0] at ge382_0
                   have HL382_0 := zA (show Kd.R (Kd.int .i64) 2 _ _ _ _ (rd_L3 t378 x13_2) from ge382_0)
                   clear hv382_0 ge382_0
                   clear hcc382 hce382
                   have HR382_0 := zA hi382_0
                   have HC382_0 := zA hl382_0
                   clear hi382_0 hl382_0
                   replace p382 := eq_true p382
                   replace q382 := eq_true q382
                   have p383 : 0 ≤ (x14_3 : Int) := zD
                   have q383 : x14_3 < ((rd_L3 t378 x13_2).length : Int) := zD
                   obtain ⟨ad383, e383, hx383_0⟩ := Kd.at_int (by repeat ((with_reducible exact HR382_0.out))) x14_3 p383 q383
                   cases e383
                   replace p383 := eq_true p383
                   replace q383 := eq_true q383
                   go_wp2
                   go_roundg k3
                   case measure => have := HK1.out; have := HK2.out; have := HK3.out; omega
                   case rel => exact ⟨(((rd (rd_L3 t378 x13_2) x14_3) == 0)), (wrap64 (x14_3 + 1)), (by rfl), (by rfl), H', ⟨by have := HK1.out; have := HK2.out; have := HK3.out; omega⟩, ⟨zR⟩, ⟨zS⟩, ⟨zB⟩⟩
                  ·rw [if_neg c23] at H
                   exact absurd H (by simp)
                 ·rw [if_neg c22] at H
                  exact absurd H (by simp)
                ·rw [if_neg c21] at H
                 exact absurd H (by simp)
               ·rw [if_neg c20] at H
                exact absurd H (by simp)
              ·replace c19 := Bool.eq_false_iff.mpr c19
               subst c19
               have H1 : (spec_VanishAt.l2 k3 l1 t374 false x10_1 t378 x13_2 (wrap64 (x14_3 + 1))) = some (r1, r2) := by rw [if_neg (show ¬ (false = true) by decide)] at H; exact H
               clear H
               have H := H1
               clear H1
               have H' := zA H
               clear H
               go_wp2
               go_roundg k3
               case measure => have := HK1.out; have := HK2.out; have := HK3.out; omega
               case rel => exact ⟨(false), (wrap64 (x14_3 + 1)), (by rfl), (by rfl), H', ⟨by have := HK1.out; have := HK2.out; have := HK3.out; omega⟩, ⟨zR⟩, ⟨zS⟩, ⟨zB⟩⟩
             ·rw [if_neg c18] at H
              have c18b0 : decide (x14_3 < (t378.length : Int)) = false := decide_eq_false c18
              clear c18
              have H' := zA H
              clear H
              go_wp2
              go_roundg k3
              case measure => have := HK1.out; have := HK2.out; have := HK3.out; omega
              case rel => exact ⟨(x9_3), (wrap64 (x13_2 + 1)), (by rfl), (by rfl), H', ⟨by have := HK1.out; have := HK2.out; have := HK3.out; omega⟩, ⟨zR⟩, ⟨zS⟩, ⟨zB⟩⟩
          ·rw [if_neg c16] at H
           have c16b0 : decide (x13_2 < (t378.length : Int)) = false := decide_eq_false c16
           clear c16
           have H' := zA H
           clear H
           obtain ⟨Ao24, co24, eo24⟩ := Kd.S_slice HO_11.out
           subst eo24
           go_wp2
           go_roundg k2
           case measure => have := HK1.out; have := HK2.out; omega
           case rel => exact ⟨(x9_2), (wrap64 (x10_1 + 1)), (by rfl), (by rfl), H', ⟨by have := HK1.out; have := HK2.out; omega⟩, ⟨zR⟩, ⟨zB⟩⟩
       ·replace c13 := Bool.eq_false_iff.mpr c13
        subst c13
        have H1 : (some (false, 3)) = some (r1, r2) := by rw [if_neg (show ¬ (false = true) by decide)] at H; exact H
        clear H
        have H := H1
        clear H1
        simp only [Option.some.injEq, Prod.mk.injEq] at H
        obtain ⟨rfl, rfl⟩ := H
        obtain ⟨Ao25, co25, eo25⟩ := Kd.R_slice HO_8.out
        subst eo25
        have p377 : 0 ≤ (x10_1 : Int) := zD
        have q377 : x10_1 < (t374.length : Int) := zD
        obtain ⟨ad377, e377, hx377_0⟩ := Kd.at_string (Kd.R_reads' HO_8.out).2.2 x10_1 p377 q377
        cases e377
        replace p377 := eq_true p377
        replace q377 := eq_true q377
        go_wp2_with (first | ((with_reducible refine gate_callee (f := 50) rfl ?_); refine goesL_ (some 40) rfl rfl Try.func50 (by kernel_rfl) rfl #[.slice A1 l1.length c1, .string (rdOf ByteArray.empty t374 x10_1)] rfl zM ?_; (with_reducible refine (spec_l08Product.calls k1 _ _ l1 (rdOf ByteArray.empty t374 x10_1) t378 false _ ?side1 ?side2 A12.out).mono ?_); (case side1 => repeat (exact (Kd.C_below HR1.out HB.out))); (case side2 => exact HC1.out); rintro e w26 ⟨v380, rfl, ho0, hb⟩; refine ⟨_, rfl, ?_⟩; have HO381 := zA (Kd.S_lower ho0 (below_size zB)); replace HO_8 := zA (Kd.R_below HO_8.out hb); replace HB := zA (below_step zB hb); (try clear hb); (try clear hb2); (try clear hk); (try clear hi); (try clear ho0)))
        go_ret2
        exact ⟨by rfl, zB⟩
      ·rw [if_neg c11] at H
       exact absurd H (by simp)
     ·rw [if_neg c10] at H
      have c10b0 : decide (x10_1 < (t374.length : Int)) = false := decide_eq_false c10
      clear c10
      simp only [Option.some.injEq, Prod.mk.injEq] at H
      obtain ⟨rfl, rfl⟩ := H
      obtain ⟨Ao27, co27, eo27⟩ := Kd.R_slice HO_8.out
      subst eo27
      go_wp2
      go_ret2
      exact ⟨by rfl, zB⟩
  ·replace c7 := Bool.eq_false_iff.mpr c7
   subst c7
   have H1 : (some (false, 2)) = some (r1, r2) := by rw [if_neg (show ¬ (false = true) by decide)] at H; exact H
   clear H
   have H := H1
   clear H1
   simp only [Option.some.injEq, Prod.mk.injEq] at H
   obtain ⟨rfl, rfl⟩ := H
   go_enter Try.func15, Try.ntmps15
   go_wp2_with (first | ((with_reducible refine gate_callee (f := 48) rfl ?_); refine goesL_ (some 18) rfl rfl Try.func48 (by kernel_rfl) rfl #[.int .i64 a0, .slice A1 l1.length c1] rfl zM ?_; (with_reducible refine (spec_l08Are.calls k a0 _ _ l1 true _ ?side1 ?side2 A4.out).mono ?_); (case side1 => repeat (exact HR1.out)); (case side2 => exact HC1.out); rintro e w' ⟨rfl, ⟨nd, rfl⟩⟩; refine ⟨_, rfl, ?_⟩) | ((with_reducible refine gate_callee (f := 61) rfl ?_); refine goesL_ (some 22) rfl rfl Try.func61 (by kernel_rfl) rfl #[.int .i64 a2, .int .i64 0, .int .i64 4] rfl zM ?_; (with_reducible refine (spec_l01In.calls a2 0 4 false _ A6.out).mono ?_); rintro e w' ⟨rfl, ⟨nd, rfl⟩⟩; refine ⟨_, rfl, ?_⟩))
   go_ret2
   exact ⟨by rfl, zB⟩
 ·replace c5 := Bool.eq_false_iff.mpr c5
  subst c5
  have H1 : (some (false, 1)) = some (r1, r2) := by rw [if_neg (show ¬ (false = true) by decide)] at H; exact H
  clear H
  have H := H1
  clear H1
  simp only [Option.some.injEq, Prod.mk.injEq] at H
  obtain ⟨rfl, rfl⟩ := H
  go_enter Try.func15, Try.ntmps15
  go_wp2_with (first | ((with_reducible refine gate_callee (f := 48) rfl ?_); refine goesL_ (some 18) rfl rfl Try.func48 (by kernel_rfl) rfl #[.int .i64 a0, .slice A1 l1.length c1] rfl zM ?_; (with_reducible refine (spec_l08Are.calls k a0 _ _ l1 false _ ?side1 ?side2 A4.out).mono ?_); (case side1 => repeat (exact HR1.out)); (case side2 => exact HC1.out); rintro e w' ⟨rfl, ⟨nd, rfl⟩⟩; refine ⟨_, rfl, ?_⟩))
  go_ret2
  exact ⟨by rfl, zB⟩

/-! ### impl_lessMatrix: function 98 -/
def impl_lessMatrix.l0 : Nat → List (List Int) → List (List Int) → List (List Int) → Int → Int → Option ((List (List Int)))
 | 0, _, _, _, _, _ => none
 | k + 1, x1, x5, x8, x9, x10 => if x10 < x9 then (if 0 ≤ x10 then (if x10 < (x8.length : Int) then (if x10 < (x1.length : Int) then ((impl_multiplied.f k (rd_L3 x1 x10) (-1)).bind fun t386 => ((impl_added.f k (rd_L3 x8 x10) t386).bind fun t389 => (if x5.length < 5864062014805 then (impl_lessMatrix.l0 k x1 (x5 ++ [t389]) x8 x9 (wrap64 (x10 + 1))) else (none)))) else (none)) else (none)) else (none)) else (some x5)
def impl_lessMatrix.f (k : Nat) (l0 : List (List Int)) (l1 : List (List Int)) : Option ((List (List Int))) := impl_lessMatrix.l0 k l1 ([] : List (List Int)) l0 (l0.length : Int) 0
theorem impl_lessMatrix.mono_l : ∀ k, (∀ y0 y1 y2 y3 y4, LeO (impl_lessMatrix.l0 k y0 y1 y2 y3 y4) (impl_lessMatrix.l0 (k + 1) y0 y1 y2 y3 y4))
 | 0 => fun _ _ _ _ _ r h => by simp [impl_lessMatrix.l0] at h
 | k + 1 => by
  have ih0 := impl_lessMatrix.mono_l k
  ·intro y0 y1 y2 y3 y4
   unfold impl_lessMatrix.l0
   repeat' first
   | (with_reducible exact ih0 _ _ _ _ _)
   | (with_reducible exact impl_added.mono _ _ _)
   | (with_reducible exact impl_multiplied.mono _ _ _)
   | (with_reducible exact LeO.refl _)
   | (with_reducible exact LeO.none _)
   | (with_reducible refine LeO.ite ?_ ?_)
   | (with_reducible refine LeO.bind ?_ (fun _ => ?_))
theorem impl_lessMatrix.mono : ∀ a0 a1 k, LeO (impl_lessMatrix.f k a0 a1) (impl_lessMatrix.f (k + 1) a0 a1) := by
 intro a0 a1 k
 have ih0 := impl_lessMatrix.mono_l k
 unfold impl_lessMatrix.f
 repeat' first
  | (with_reducible exact ih0 _ _ _ _ _)
  | (with_reducible exact impl_added.mono _ _ _)
  | (with_reducible exact impl_multiplied.mono _ _ _)
  | (with_reducible exact LeO.refl _)
  | (with_reducible exact LeO.none _)
  | (with_reducible refine LeO.ite ?_ ?_)
  | (with_reducible refine LeO.bind ?_ (fun _ => ?_))
theorem impl_lessMatrix.calls (k : Nat) (A0 : Option Addr) (c0 : Nat) (l0 : List (List Int)) (A1 : Option Addr) (c1 : Nat) (l1 : List (List Int)) (r : List (List Int)) (w : World) (hr0 : Kd.C (Kd.slice 2 (Kd.int .i64)) w A0 l0.length l0) (hc0 : l0.length ≤ c0) (hr1 : Kd.C (Kd.slice 2 (Kd.int .i64)) w A1 l1.length l1) (hc1 : l1.length ≤ c1) (h : impl_lessMatrix.f k l0 l1 = some r) :
 Calls Try.prog 98 #[.slice A0 l0.length c0, .slice A1 l1.length c1] w fun e w' => ∃ v0_ : Value, e = .returned (v0_) ∧ Kd.S (Kd.slice 2 (Kd.int .i64)) 45 w' w.heap.size (fun _ => True) v0_ r ∧ Below w.heap.size w w' := by
 have HR0 := zA hr0
 have HC0 := zA hc0
 clear hr0 hc0
 have HR1 := zA hr1
 have HC1 := zA hc1
 clear hr1 hc1
 have HB := zA (Below.refl w.heap.size w)
 have H : (impl_lessMatrix.l0 k l1 ([] : List (List Int)) l0 (l0.length : Int) 0) = some r := h
 clear h
 have H' := zA H
 clear H
 go_enter Try.func98, Try.ntmps98
 go_wp2
 go_loopg [5, 10] k (fun kq v5 v10 w' => ∃ (x5_1 : List (List Int)) (x10_1 : Int), v10 = .int .i64 x10_1 ∧ Aside0 (impl_lessMatrix.l0 kq l1 x5_1 l0 (l0.length : Int) x10_1 = some r) ∧ Aside0 (kq ≤ k) ∧ Aside0 (Kd.S (Kd.slice 2 (Kd.int .i64)) 45 w' w.heap.size (fun _ => True) v5 x5_1) ∧ Aside0 (Below w.heap.size w w'))
 case atStart => exact ⟨(([] : List (List Int))), (0), (by rfl), H', ⟨Nat.le_refl _⟩, ⟨by exact Kd.S_nil _ _ _ _ _⟩, ⟨zB⟩⟩
 case round =>
  clear H'
  obtain ⟨x5_1, x10_1, rfl, HA, HK1, HO_5, HB⟩ := hrel
  cases gk with
  | zero => exact absurd HA.out (by simp [impl_lessMatrix.l0])
  | succ k1 =>
   have H := HA.out
   clear HA
   simp only [impl_lessMatrix.l0] at H
   by_cases c3 : x10_1 < (l0.length : Int)
   ·rw [if_pos c3] at H
    have c3b0 : decide (x10_1 < (l0.length : Int)) = true := decide_eq_true c3
    clear c3
    by_cases c4 : 0 ≤ x10_1
    ·rw [if_pos c4] at H
     have c4b0 : decide (0 ≤ x10_1) = true := decide_eq_true c4
     clear c4
     by_cases c5 : x10_1 < (l0.length : Int)
     ·rw [if_pos c5] at H
      have c5b0 : decide (x10_1 < (l0.length : Int)) = true := decide_eq_true c5
      clear c5
      by_cases c6 : x10_1 < (l1.length : Int)
      ·rw [if_pos c6] at H
       have c6b0 : decide (x10_1 < (l1.length : Int)) = true := decide_eq_true c6
       clear c6
       replace H := Option.bind_eq_some_iff.mp H
       obtain ⟨t386, A70, H⟩ := H
       replace H : ((impl_added.f k1 (rd_L3 l0 x10_1) t386).bind fun t389 => (if x5_1.length < 5864062014805 then (impl_lessMatrix.l0 k1 l1 (x5_1 ++ [t389]) l0 (l0.length : Int) (wrap64 (x10_1 + 1))) else (none))) = some r := H
       have A7 := zA A70
       clear A70
       replace H := Option.bind_eq_some_iff.mp H
       obtain ⟨t389, A80, H⟩ := H
       replace H : (if x5_1.length < 5864062014805 then (impl_lessMatrix.l0 k1 l1 (x5_1 ++ [t389]) l0 (l0.length : Int) (wrap64 (x10_1 + 1))) else (none)) = some r := H
       have A8 := zA A80
       clear A80
       by_cases c9 : x5_1.length < 5864062014805
       ·rw [if_pos c9] at H
        have LMc9 := zA c9
        clear c9
        obtain ⟨y392, hy392⟩ : ∃ y_ : List (List Int), y_ = (x5_1 ++ [t389]) := ⟨_, rfl⟩
        replace H : (impl_lessMatrix.l0 k1 l1 y392 l0 (l0.length : Int) (wrap64 (x10_1 + 1))) = some r := by (rw [hy392]; with_reducible exact H)
        have Ny392 := zA hy392
        clear hy392
        have H' := zA H
        clear H
        have p384 : 0 ≤ (x10_1 : Int) := zD
        have q384 : x10_1 < (l0.length : Int) := zD
        obtain ⟨ad384, A384_0, c384_0, e384, hx384_0, hl384_0, hi384_0⟩ := at_L3 HR0.out x10_1 p384 q384
        cases e384
        replace hx384_0 := zH HB hx384_0
        have HR384_0 := zA hi384_0
        have HC384_0 := zA hl384_0
        clear hi384_0 hl384_0
        replace p384 := eq_true p384
        replace q384 := eq_true q384
        have p385 : 0 ≤ (x10_1 : Int) := zD
        have q385 : x10_1 < (l1.length : Int) := zD
        obtain ⟨ad385, A385_0, c385_0, e385, hx385_0, hl385_0, hi385_0⟩ := at_L3 HR1.out x10_1 p385 q385
        cases e385
        replace hx385_0 := zH HB hx385_0
        have HR385_0 := zA hi385_0
        have HC385_0 := zA hl385_0
        clear hi385_0 hl385_0
        replace p385 := eq_true p385
        replace q385 := eq_true q385
        go_wp2_with (first | ((with_reducible refine gate_callee (f := 111) rfl ?_); refine goesL_ (some 21) rfl rfl Try.func111 (by kernel_rfl) rfl #[.slice A385_0 (rd_L3 l1 x10_1).length c385_0, .int .i64 (-1)] rfl zM ?_; (with_reducible refine (impl_multiplied.calls k1 _ _ (rd_L3 l1 x10_1) (-1) t386 _ ?side1 ?side2 A7.out).mono ?_); (case side1 => repeat (exact (Kd.C_below HR385_0.out HB.out))); (case side2 => exact HC385_0.out); rintro e w10 ⟨v387, rfl, ho0, hb⟩; refine ⟨_, rfl, ?_⟩; have HO388 := zA (Kd.R_lower ho0 (below_size zB)); replace HO_5 := zA (Kd.S_elder' zS (Kd.R_base ho0) hb); replace HB := zA (below_step zB hb); (try clear hb); (try clear hb2); (try clear hk); (try clear hi); (try clear ho0); obtain ⟨Ao11, co11, eo11⟩ := Kd.R_slice HO388.out; subst eo11) | ((with_reducible refine gate_callee (f := 110) rfl ?_); refine goesL_ (some 22) rfl rfl Try.func110 (by kernel_rfl) rfl #[.slice A384_0 (rd_L3 l0 x10_1).length c384_0, .slice Ao11 t386.length co11] rfl zM ?_; (with_reducible refine (impl_added.calls k1 _ _ (rd_L3 l0 x10_1) _ _ t386 t389 _ ?side1 ?side2 ?side3 ?side4 A8.out).mono ?_); (case side1 => repeat (exact (Kd.C_below HR384_0.out HB.out))); (case side2 => exact HC384_0.out); (case side3 => repeat (exact (Kd.R_reads' HO388.out).2.2)); (case side4 => exact (Kd.R_reads' HO388.out).2.1); rintro e w12 ⟨v390, rfl, ho0, hb⟩; refine ⟨_, rfl, ?_⟩; have HO391 := zA (Kd.R_lower (Kd.R_new' ho0 (Kd.R_lt HO388.out)) (below_size zB)); replace HO_5 := zA (Kd.S_elder' zS (Kd.R_base ho0) hb); replace HO388 := zA (Kd.R_elder' zR (Kd.R_base ho0) hb); replace HB := zA (below_step zB hb); (try clear hb); (try clear hb2); (try clear hk); (try clear hi); (try clear ho0); obtain ⟨Ao14, co14, eo14⟩ := Kd.R_slice HO391.out; subst eo14) | ((with_reducible refine gate_builtin (b := .append) (xs := #[.tmp 15, .tmp 23]) rfl ?_); at_builtin; refine Kd.S_append (Kd.slice 2 (Kd.int .i64)) (w0 := w) w.heap.size rfl (.tmp 15) (.tmp 23) 27 45 (.slice none 0 0) 24 rfl Try.underlying27 info45 rfl (by decide) (by omega) u5 x5_1 t389 [.slice Ao14 t389.length co14] (fun k_ => some k_ ≠ (.slice Ao11 t386.length co11 : Value).ownBlock) (fun k_ => some k_ = (.slice Ao14 t389.length co14 : Value).ownBlock) rfl rfl ?aP (fun k_ hk_ => ((Kd.R_mono (ok' := fun k_ => ((fun k_ => some k_ ≠ (.slice Ao11 t386.length co11 : Value).ownBlock)) k_ ∧ some k_ ≠ (u5 : Value).ownBlock) (Kd.R_apart' (HO391.out) (Kd.S_typed HO_5.out) (by decide)) (fun k_ hk => ⟨hk.1.2, hk.2⟩))).1 k_ hk_.symm) ?aF ?aO ?aB ?aS ?aL ?_; (case aP => exact Kd.M_row (Kd.R_mono (Kd.R_tight rfl (Kd.R_mono (ok' := fun k_ => ((fun k_ => some k_ ≠ (.slice Ao11 t386.length co11 : Value).ownBlock)) k_ ∧ some k_ ≠ (u5 : Value).ownBlock) (Kd.R_apart' (HO391.out) (Kd.S_typed HO_5.out) (by decide)) (fun k_ hk => ⟨hk.1.2, hk.2⟩))) (fun _ h_ => h_))); (case aB => exact zB); (case aF => exact (fun k_ hk => Kd.fresh' (Kd.R_lt HO388.out) k_ hk)); (case aO => exact (by exact Kd.S_mono HO_5.out (fun k_ hk => ⟨hk.1.2, fun e_ => hk.2 e_⟩))); (case aS => exact (below_size zB)); (case aL => have := LMc9.out; omega); intro v393 w13 ho hb hg hat; rw [← Ny392.out] at ho; have HO394 := zA (ho); replace HO388 := zA (Kd.R_over' zR (Kd.S_typed zS) (by decide) hg); replace HB := zA (hb); clear HO_5 HO391; clear ho hb hg hat))
        go_roundg k1
        case measure => have := HK1.out; omega
        case rel => exact ⟨(y392), (wrap64 (x10_1 + 1)), (by rfl), H', ⟨by have := HK1.out; omega⟩, ⟨by exact Kd.S_mono HO394.out (fun _ hk => trivial)⟩, ⟨zB⟩⟩
       ·rw [if_neg c9] at H
        exact absurd H (by simp)
      ·rw [if_neg c6] at H
       exact absurd H (by simp)
     ·rw [if_neg c5] at H
      exact absurd H (by simp)
    ·rw [if_neg c4] at H
     exact absurd H (by simp)
   ·rw [if_neg c3] at H
    have c3b0 : decide (x10_1 < (l0.length : Int)) = false := decide_eq_false c3
    clear c3
    obtain rfl := Option.some.inj H
    go_wp2
    go_ret
    exact ⟨_, by rfl, zS, zB⟩


/-! ### impl_turn: function 63 -/
def impl_turn.f (k : Nat) (l0 : List (List Int)) (l1 : List (List Int)) : Option ((List (List Int))) := (impl_timesMatrix.f k l0 l1).bind fun t395 => ((impl_timesMatrix.f k l1 l0).bind fun t398 => ((impl_lessMatrix.f k t395 t398).bind fun t401 => (some t401)))
theorem impl_turn.mono : ∀ a0 a1 k, LeO (impl_turn.f k a0 a1) (impl_turn.f (k + 1) a0 a1) := by
 intro a0 a1 k
 unfold impl_turn.f
 repeat' first
  | (with_reducible exact impl_lessMatrix.mono _ _ _)
  | (with_reducible exact impl_timesMatrix.mono _ _ _)
  | (with_reducible exact LeO.refl _)
  | (with_reducible exact LeO.none _)
  | (with_reducible refine LeO.ite ?_ ?_)
  | (with_reducible refine LeO.bind ?_ (fun _ => ?_))
theorem impl_turn.callsS (k : Nat) (A0 : Option Addr) (c0 : Nat) (l0 : List (List Int)) (A1 : Option Addr) (c1 : Nat) (l1 : List (List Int)) (r : List (List Int)) (w : World) (hr0 : Kd.C (Kd.slice 2 (Kd.int .i64)) w A0 l0.length l0) (hc0 : l0.length ≤ c0) (hr1 : Kd.C (Kd.slice 2 (Kd.int .i64)) w A1 l1.length l1) (hc1 : l1.length ≤ c1) (h : impl_turn.f k l0 l1 = some r) :
 Calls Try.prog 63 #[.slice A0 l0.length c0, .slice A1 l1.length c1] w fun e w' => ∃ v0_ : Value, e = .returned (v0_) ∧ Kd.S (Kd.slice 2 (Kd.int .i64)) 45 w' w.heap.size (fun k_ => (w.heap.size ≤ k_)) v0_ r ∧ Below w.heap.size w w' := by
 have HR0 := zA hr0
 have HC0 := zA hc0
 clear hr0 hc0
 have HR1 := zA hr1
 have HC1 := zA hc1
 clear hr1 hc1
 have HB := zA (Below.refl w.heap.size w)
 have H : ((impl_timesMatrix.f k l0 l1).bind fun t395 => ((impl_timesMatrix.f k l1 l0).bind fun t398 => ((impl_lessMatrix.f k t395 t398).bind fun t401 => (some t401)))) = some r := h
 clear h
 replace H := Option.bind_eq_some_iff.mp H
 obtain ⟨t395, A30, H⟩ := H
 replace H : ((impl_timesMatrix.f k l1 l0).bind fun t398 => ((impl_lessMatrix.f k t395 t398).bind fun t401 => (some t401))) = some r := H
 have A3 := zA A30
 clear A30
 replace H := Option.bind_eq_some_iff.mp H
 obtain ⟨t398, A40, H⟩ := H
 replace H : ((impl_lessMatrix.f k t395 t398).bind fun t401 => (some t401)) = some r := H
 have A4 := zA A40
 clear A40
 replace H := Option.bind_eq_some_iff.mp H
 obtain ⟨t401, A50, H⟩ := H
 replace H : (some t401) = some r := H
 have A5 := zA A50
 clear A50
 obtain rfl := Option.some.inj H
 go_enter Try.func63, Try.ntmps63
 go_wp2_with fail
 refine (impl_timesMatrix.callsS k A0 c0 l0 A1 c1 l1 t395 _ HR0.out HC0.out HR1.out HC1.out A3.out).mono ?_
 rintro e w1 ⟨v1, rfl, ho1, hb1⟩
 have S1 := zA ho1
 have B1 := zA hb1
 obtain ⟨a1_, k1_, rfl, _, _⟩ := Kd.S_reads ho1
 clear ho1 hb1
 go_wp2_with fail
 refine (impl_timesMatrix.callsS k A1 c1 l1 A0 c0 l0 t398 _ (Kd.C_below HR1.out B1.out) HC1.out (Kd.C_below HR0.out B1.out) HC0.out A4.out).mono ?_
 rintro e w2 ⟨v2, rfl, ho2, hb2⟩
 have S1' := zA (Kd.S_below S1.out hb2)
 have S2 := zA ho2
 have B2 := zA (below_step B1.out hb2)
 obtain ⟨a2_, k2_, rfl, _, _⟩ := Kd.S_reads ho2
 clear ho2 hb2 S1
 go_wp2_with fail
 refine (impl_lessMatrix.calls k a1_ k1_ t395 a2_ k2_ t398 t401 _ (Kd.S_reads' S1'.out).2.2 (Kd.S_reads' S1'.out).2.1 (Kd.S_reads' S2.out).2.2 (Kd.S_reads' S2.out).2.1 A5.out).mono ?_
 rintro e w3 ⟨v3, rfl, ho3, hb3⟩
 have S3 := zA (Kd.S_lower (Kd.S_mono (ok' := fun k_ => (w.heap.size ≤ k_)) (Kd.S_bound ho3) (fun k_ hk_ => Nat.le_trans B2.out.size hk_.2.1)) B2.out.size)
 have B3 := zA (below_step B2.out hb3)
 clear ho3 hb3
 go_wp2
 go_ret
 exact ⟨_, rfl, S3.out, B3.out⟩
set_option maxHeartbeats 1000000 in
theorem impl_turn.calls (k : Nat) (A0 : Option Addr) (c0 : Nat) (l0 : List (List Int)) (A1 : Option Addr) (c1 : Nat) (l1 : List (List Int)) (r : List (List Int)) (w : World) (hr0 : Kd.C (Kd.slice 2 (Kd.int .i64)) w A0 l0.length l0) (hc0 : l0.length ≤ c0) (hr1 : Kd.C (Kd.slice 2 (Kd.int .i64)) w A1 l1.length l1) (hc1 : l1.length ≤ c1) (h : impl_turn.f k l0 l1 = some r) :
 Calls Try.prog 63 #[.slice A0 l0.length c0, .slice A1 l1.length c1] w fun e w' => ∃ v0_ : Value, e = .returned (v0_) ∧ Kd.N (Kd.slice 2 (Kd.int .i64)) 45 w' w.heap.size (fun k_ => (w.heap.size ≤ k_)) v0_ r ∧ Below w.heap.size w w' := by
 refine (impl_turn.callsS k A0 c0 l0 A1 c1 l1 r w hr0 hc0 hr1 hc1 h).mono ?_
 rintro e w' ⟨v0_, he, hS, hB⟩
 exact ⟨v0_, he, Kd.S_N hS, hB⟩


end Go.Proofs.Ytkbneilobaehkaa.P
