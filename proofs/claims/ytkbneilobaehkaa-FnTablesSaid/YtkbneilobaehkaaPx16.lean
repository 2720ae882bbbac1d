/- What a call of each Go function named below comes to is what the plain Lean function beside it says. Made by a program of this session out of the print of the translation; Lean checks it. -/
import Derived.Test.YtkbneilobaehkaaPx0
import Derived.Test.YtkbneilobaehkaaPx4
import Derived.Test.YtkbneilobaehkaaPx8
import Derived.Test.YtkbneilobaehkaaPx15
namespace Go.Proofs.Ytkbneilobaehkaa.P
open Go.RowKit Go.Proofs.YtkbneilobaehkaaW.PrintWords Go.Proofs.YtkbneilobaehkaaW.PrintLast Go.Proofs.YtkbneilobaehkaaW.PrintMore
attribute [local go_sem] max2_int min2_int max_two min_two max_three min_three max_four min_four   -- for this text's walks alone
set_option linter.unusedVariables false
set_option linter.unusedSimpArgs false
set_option maxHeartbeats 8000000
set_option maxRecDepth 100000


/-! ### spec_DoTablesCommute: function 17 -/
mutual
def spec_DoTablesCommute.l0 : Nat → List (List (List Int)) → Int → Option (Bool × Int)
 | 0, _, _ => none
 | k + 1, x1, x6 => if x6 < (x1.length : Int) then (spec_DoTablesCommute.l1 k x1 x6 0) else (some (true, 0))
def spec_DoTablesCommute.l1 : Nat → List (List (List Int)) → Int → Int → Option (Bool × Int)
 | 0, _, _, _ => none
 | k + 1, x1, x6, x7 => if x7 < x6 then (if 0 ≤ x6 then (if x6 < (x1.length : Int) then (if 0 ≤ x7 then (if x7 < (x1.length : Int) then ((spec_l08Commutator.f k (rd_L4 x1 x6) (rd_L4 x1 x7)).bind fun t438 => (spec_DoTablesCommute.l2 k x1 x6 x7 t438 0)) else (none)) else (none)) else (none)) else (none)) else (spec_DoTablesCommute.l0 k x1 (wrap64 (x6 + 1)))
def spec_DoTablesCommute.l2 : Nat → List (List (List Int)) → Int → Int → List (List Int) → Int → Option (Bool × Int)
 | 0, _, _, _, _, _ => none
 | k + 1, x1, x6, x7, x8, x9 => if x9 < (x8.length : Int) then (spec_DoTablesCommute.l3 k x1 x6 x7 x8 x9 0) else (spec_DoTablesCommute.l1 k x1 x6 (wrap64 (x7 + 1)))
def spec_DoTablesCommute.l3 : Nat → List (List (List Int)) → Int → Int → List (List Int) → Int → Int → Option (Bool × Int)
 | 0, _, _, _, _, _, _ => none
 | k + 1, x1, x6, x7, x8, x9, x10 => if x10 < (x8.length : Int) then (if 0 ≤ x9 then (if x9 < (x8.length : Int) then (if 0 ≤ x10 then (if x10 < ((rd_L3 x8 x9).length : Int) then (if (rd (rd_L3 x8 x9) x10) = 0 then (spec_DoTablesCommute.l3 k x1 x6 x7 x8 x9 (wrap64 (x10 + 1))) else (some (false, 0))) else (none)) else (none)) else (none)) else (none)) else (spec_DoTablesCommute.l2 k x1 x6 x7 x8 (wrap64 (x9 + 1)))
end
def spec_DoTablesCommute.f (k : Nat) (a0 : Int) (l1 : List (List (List Int))) : Option (Bool × Int) := (spec_l08Are.f k a0 l1).bind fun t435 => (if t435 = true then (spec_DoTablesCommute.l0 k l1 0) else (some (false, 1)))
theorem spec_DoTablesCommute.mono_l : ∀ k, (∀ y0 y1, LeO (spec_DoTablesCommute.l0 k y0 y1) (spec_DoTablesCommute.l0 (k + 1) y0 y1)) ∧ (∀ y0 y1 y2, LeO (spec_DoTablesCommute.l1 k y0 y1 y2) (spec_DoTablesCommute.l1 (k + 1) y0 y1 y2)) ∧ (∀ y0 y1 y2 y3 y4, LeO (spec_DoTablesCommute.l2 k y0 y1 y2 y3 y4) (spec_DoTablesCommute.l2 (k + 1) y0 y1 y2 y3 y4)) ∧ (∀ y0 y1 y2 y3 y4 y5, LeO (spec_DoTablesCommute.l3 k y0 y1 y2 y3 y4 y5) (spec_DoTablesCommute.l3 (k + 1) y0 y1 y2 y3 y4 y5))
 | 0 => ⟨fun _ _ r h => by simp [spec_DoTablesCommute.l0] at h, fun _ _ _ r h => by simp [spec_DoTablesCommute.l1] at h, fun _ _ _ _ _ r h => by simp [spec_DoTablesCommute.l2] at h, fun _ _ _ _ _ _ r h => by simp [spec_DoTablesCommute.l3] at h⟩
 | k + 1 => by
  obtain ⟨ih0, ih1, ih2, ih3⟩ := spec_DoTablesCommute.mono_l k
  refine ⟨?_, ?_, ?_, ?_⟩
  ·intro y0 y1
   unfold spec_DoTablesCommute.l0
   repeat' first
   | (with_reducible exact ih0 _ _)
   | (with_reducible exact ih1 _ _ _)
   | (with_reducible exact ih2 _ _ _ _ _)
   | (with_reducible exact ih3 _ _ _ _ _ _)
   | (with_reducible exact spec_l08Are.mono _ _ _)
   | (with_reducible exact spec_l08Commutator.mono _ _ _)
   | (with_reducible exact LeO.refl _)
   | (with_reducible exact LeO.none _)
   | (with_reducible refine LeO.ite ?_ ?_)
   | (with_reducible refine LeO.bind ?_ (fun _ => ?_))
  ·intro y0 y1 y2
   unfold spec_DoTablesCommute.l1
   repeat' first
   | (with_reducible exact ih0 _ _)
   | (with_reducible exact ih1 _ _ _)
   | (with_reducible exact ih2 _ _ _ _ _)
   | (with_reducible exact ih3 _ _ _ _ _ _)
   | (with_reducible exact spec_l08Are.mono _ _ _)
   | (with_reducible exact spec_l08Commutator.mono _ _ _)
   | (with_reducible exact LeO.refl _)
   | (with_reducible exact LeO.none _)
   | (with_reducible refine LeO.ite ?_ ?_)
   | (with_reducible refine LeO.bind ?_ (fun _ => ?_))
  ·intro y0 y1 y2 y3 y4
   unfold spec_DoTablesCommute.l2
   repeat' first
   | (with_reducible exact ih0 _ _)
   | (with_reducible exact ih1 _ _ _)
   | (with_reducible exact ih2 _ _ _ _ _)
   | (with_reducible exact ih3 _ _ _ _ _ _)
   | (with_reducible exact spec_l08Are.mono _ _ _)
   | (with_reducible exact spec_l08Commutator.mono _ _ _)
   | (with_reducible exact LeO.refl _)
   | (with_reducible exact LeO.none _)
   | (with_reducible refine LeO.ite ?_ ?_)
   | (with_reducible refine LeO.bind ?_ (fun _ => ?_))
  ·intro y0 y1 y2 y3 y4 y5
   unfold spec_DoTablesCommute.l3
   repeat' first
   | (with_reducible exact ih0 _ _)
   | (with_reducible exact ih1 _ _ _)
   | (with_reducible exact ih2 _ _ _ _ _)
   | (with_reducible exact ih3 _ _ _ _ _ _)
   | (with_reducible exact spec_l08Are.mono _ _ _)
   | (with_reducible exact spec_l08Commutator.mono _ _ _)
   | (with_reducible exact LeO.refl _)
   | (with_reducible exact LeO.none _)
   | (with_reducible refine LeO.ite ?_ ?_)
   | (with_reducible refine LeO.bind ?_ (fun _ => ?_))
theorem spec_DoTablesCommute.mono : ∀ a0 a1 k, LeO (spec_DoTablesCommute.f k a0 a1) (spec_DoTablesCommute.f (k + 1) a0 a1) := by
 intro a0 a1 k
 obtain ⟨ih0, ih1, ih2, ih3⟩ := spec_DoTablesCommute.mono_l k
 unfold spec_DoTablesCommute.f
 repeat' first
  | (with_reducible exact ih0 _ _)
  | (with_reducible exact ih1 _ _ _)
  | (with_reducible exact ih2 _ _ _ _ _)
  | (with_reducible exact ih3 _ _ _ _ _ _)
  | (with_reducible exact spec_l08Are.mono _ _ _)
  | (with_reducible exact spec_l08Commutator.mono _ _ _)
  | (with_reducible exact LeO.refl _)
  | (with_reducible exact LeO.none _)
  | (with_reducible refine LeO.ite ?_ ?_)
  | (with_reducible refine LeO.bind ?_ (fun _ => ?_))
def spec_DoTablesCommute.T9 : Bool × List (List Nat × List Nat) := (true, [([], []), ([], []), ([0, 1], [0, 1]), ([2], [2]), ([], []), ([], []), ([4, 5], [4, 5]), ([6], [6]), ([3, 7], [3, 7]), ([8, 8, 0, 1, 2, 3, 4, 5, 6, 7, 8], [8])])
def spec_DoTablesCommute.B9 : List Nat := [0, 0, 3, 7, 0, 0, 48, 112, 255, 511]
theorem spec_DoTablesCommute.tab9 : rtab .any (opsOf Try.f17 9) = spec_DoTablesCommute.T9 := by kernel_rfl
theorem spec_DoTablesCommute.bits9 : waitsOk spec_DoTablesCommute.T9.2 spec_DoTablesCommute.B9 = true := by kernel_rfl
theorem spec_DoTablesCommute.calls (k : Nat) (a0 : Int) (A1 : Option Addr) (c1 : Nat) (l1 : List (List (List Int))) (r1 : Bool) (r2 : Int) (w : World) (hr1 : Kd.C (Kd.slice 45 (Kd.slice 2 (Kd.int .i64))) w A1 l1.length l1) (hc1 : l1.length ≤ c1) (h : spec_DoTablesCommute.f k a0 l1 = some (r1, r2)) :
 Calls Try.prog 17 #[.int .i64 a0, .slice A1 l1.length c1] w fun e w' => e = .returned (.tuple #[.bool r1, .int .i64 r2]) ∧ Below w.heap.size w w' := by
 have HR1 := zA hr1
 have HC1 := zA hc1
 clear hr1 hc1
 have HB := zA (Below.refl w.heap.size w)
 have H : ((spec_l08Are.f k a0 l1).bind fun t435 => (if t435 = true then (spec_DoTablesCommute.l0 k l1 0) else (some (false, 1)))) = some (r1, r2) := h
 clear h
 replace H := Option.bind_eq_some_iff.mp H
 obtain ⟨t435, A30, H⟩ := H
 replace H : (if t435 = true then (spec_DoTablesCommute.l0 k l1 0) else (some (false, 1))) = some (r1, r2) := H
 have A3 := zA A30
 clear A30
 by_cases c4 : t435 = true
 ·subst c4
  have H1 : (spec_DoTablesCommute.l0 k l1 0) = some (r1, r2) := by rw [if_pos rfl] at H; exact H
  clear H
  have H := H1
  clear H1
  have H' := zA H
  clear H
  go_enter Try.func17, Try.ntmps17
  go_wp2_with (first | ((with_reducible refine gate_callee (f := 48) rfl ?_); refine goesL_ (some 13) rfl rfl Try.func48 (by kernel_rfl) rfl #[.int .i64 a0, .slice A1 l1.length c1] rfl zM ?_; (with_reducible refine (spec_l08Are.calls k a0 _ _ l1 true _ ?side1 ?side2 A3.out).mono ?_); (case side1 => repeat (exact HR1.out)); (case side2 => exact HC1.out); rintro e w' ⟨rfl, ⟨nd, rfl⟩⟩; refine ⟨_, rfl, ?_⟩))
  go_loopg [6] k (fun kq v6 w' => ∃ (x6_1 : Int), v6 = .int .i64 x6_1 ∧ Aside0 (spec_DoTablesCommute.l0 kq l1 x6_1 = some (r1, r2)) ∧ Aside0 (kq ≤ k) ∧ Aside0 (Below w.heap.size w w'))
  case atStart => exact ⟨(0), (by rfl), H', ⟨Nat.le_refl _⟩, ⟨zB⟩⟩
  case round =>
   clear H'
   obtain ⟨x6_1, rfl, HA, HK1, HB⟩ := hrel
   cases gk with
   | zero => exact absurd HA.out (by simp [spec_DoTablesCommute.l0])
   | succ k1 =>
    have H := HA.out
    clear HA
    simp only [spec_DoTablesCommute.l0] at H
    by_cases c5 : x6_1 < (l1.length : Int)
    ·rw [if_pos c5] at H
     have c5b0 : decide (x6_1 < (l1.length : Int)) = true := decide_eq_true c5
     clear c5
     have H' := zA H
     clear H
     go_wp2
     go_loopg [7] k1 (fun kq v7 w' => ∃ (x7_2 : Int), v7 = .int .i64 x7_2 ∧ Aside0 (spec_DoTablesCommute.l1 kq l1 x6_1 x7_2 = some (r1, r2)) ∧ Aside0 (kq ≤ k1) ∧ Aside0 (Below w.heap.size w w'))
     case atStart => exact ⟨(0), (by rfl), H', ⟨Nat.le_refl _⟩, ⟨zB⟩⟩
     case round =>
      clear H'
      obtain ⟨x7_2, rfl, HA, HK2, HB⟩ := hrel
      cases gk with
      | zero => exact absurd HA.out (by simp [spec_DoTablesCommute.l1])
      | succ k2 =>
       have H := HA.out
       clear HA
       simp only [spec_DoTablesCommute.l1] at H
       by_cases c6 : x7_2 < x6_1
       ·rw [if_pos c6] at H
        have c6b0 : decide (x7_2 < x6_1) = true := decide_eq_true c6
        clear c6
        by_cases c7 : 0 ≤ x6_1
        ·rw [if_pos c7] at H
         have c7b0 : decide (0 ≤ x6_1) = true := decide_eq_true c7
         clear c7
         by_cases c8 : x6_1 < (l1.length : Int)
         ·rw [if_pos c8] at H
          have c8b0 : decide (x6_1 < (l1.length : Int)) = true := decide_eq_true c8
          clear c8
          by_cases c9 : 0 ≤ x7_2
          ·rw [if_pos c9] at H
           have c9b0 : decide (0 ≤ x7_2) = true := decide_eq_true c9
           clear c9
           by_cases c10 : x7_2 < (l1.length : Int)
           ·rw [if_pos c10] at H
            have c10b0 : decide (x7_2 < (l1.length : Int)) = true := decide_eq_true c10
            clear c10
            replace H := Option.bind_eq_some_iff.mp H
            obtain ⟨t438, A110, H⟩ := H
            replace H : (spec_DoTablesCommute.l2 k2 l1 x6_1 x7_2 t438 0) = some (r1, r2) := H
            have A11 := zA A110
            clear A110
            have H' := zA H
            clear H
            try go_wp2
            replace HB := zA (below_drew1 HB.out)
            have p436 : 0 ≤ (x6_1 : Int) := zD
            have q436 : x6_1 < (l1.length : Int) := zD
            obtain ⟨ad436, A436_0, c436_0, e436, hx436_0, hl436_0, hi436_0⟩ := at_L4 HR1.out x6_1 p436 q436
            have hw436_0 := hx436_0
            cases e436
            replace hx436_0 := zH HB hx436_0
            have HR436_0 := zA hi436_0
            have HC436_0 := zA hl436_0
            clear hi436_0 hl436_0
            replace p436 := eq_true p436
            replace q436 := eq_true q436
            have p437 : 0 ≤ (x7_2 : Int) := zD
            have q437 : x7_2 < (l1.length : Int) := zD
            obtain ⟨ad437, A437_0, c437_0, e437, hx437_0, hl437_0, hi437_0⟩ := at_L4 HR1.out x7_2 p437 q437
            have hw437_0 := hx437_0
            obtain rfl : ad436 = ad437 := (by injection e437)
            replace hx437_0 := zH HB hx437_0
            have HR437_0 := zA hi437_0
            have HC437_0 := zA hl437_0
            clear hi437_0 hl437_0
            replace p437 := eq_true p437
            replace q437 := eq_true q437
            refine start_ (n := 10) (S := fun w' => w'.cell? (ad436.add (x6_1).toNat) = some (.slice A436_0 (rd_L4 l1 x6_1).length c436_0) ∧ w'.cell? (ad436.add (x7_2).toNat) = some (.slice A437_0 (rd_L4 l1 x7_2).length c437_0)) (ds := []) #[false, false, false, false, false, false, false, false, false, false] (by kernel_rfl) rfl rfl ⟨(zH HB hw436_0 :), (zH HB hw437_0 :)⟩ (fun hHeld => ?_); refine with_tabW spec_DoTablesCommute.tab9 spec_DoTablesCommute.bits9 (fun HT_ HW_ => ?_)
            generalize wr.drew = w12 at HB HR436_0 HR437_0 hx436_0 hx437_0 hHeld ⊢
            refine zP 0 (N := some 26) (h := ?_)
            refine zP 1 (N := some 27) (h := ?_)
            refine zP 2 (N := some 28) (h := ?_)
            refine zP 4 (N := some 30) (h := ?_)
            refine zP 5 (N := some 31) (h := ?_)
            refine zP 6 (N := some 32) (h := ?_)
            refine zT 3 hHeld (N := some 29) (h := ?_)
            refine zT 7 hHeld (N := some 33) (h := ?_)
            refine one_ (i := 8) (N := some 34) #[true, true, true, true, true, true, true, true, true, false] rfl rfl (one_of HT_.out (by kernel_rfl)) (by decide) (fun K hK => ?_)
            refine goes_ Try.func64 (by kernel_rfl) rfl #[.slice A436_0 (rd_L4 l1 x6_1).length c436_0, .slice A437_0 (rd_L4 l1 x7_2).length c437_0] (by rfl) rfl rfl zM ?_
            with_reducible refine (spec_l08Commutator.calls k2 _ _ (rd_L4 l1 x6_1) _ _ (rd_L4 l1 x7_2) t438 _ ?side1 ?side2 ?side3 ?side4 A11.out).mono ?_
            (case side1 => repeat (exact (Kd.C_below HR436_0.out HB.out)))
            (case side2 => exact HC436_0.out)
            (case side3 => repeat (exact (Kd.C_below HR437_0.out HB.out)))
            (case side4 => exact HC437_0.out)
            rintro e w13 ⟨v439, rfl, ho0, hb⟩
            refine ⟨_, rfl, ?_⟩
            have HO440 := zA (Kd.S_lower ho0 (below_size zB))
            replace HB := zA (below_step zB hb)
            (try clear hb)
            (try clear hb2)
            (try clear hk)
            (try clear hi)
            (try clear ho0)
            refine hK.out _ _ ⟨(zH HB hw436_0 :), (zH HB hw437_0 :)⟩ (fun hHeld => ?_)
            clear hK K
            refine norm_ (a' := ?_) ?_ ?_
            rotate_left
            ·show Act.put _ (some 34) _ = _
             simp only [Act.put, List.setIfInBounds_toArray, List.set, i64_w, i32_w]
             rfl
            refine zP 9 (N := some 8) (h := ?_)
            refine done_ (done_of HT_.out (by kernel_rfl)) ?_
            try go_wp2
            go_loopg [9] k2 (fun kq v9 w' => ∃ (x9_3 : Int), v9 = .int .i64 x9_3 ∧ Aside0 (spec_DoTablesCommute.l2 kq l1 x6_1 x7_2 t438 x9_3 = some (r1, r2)) ∧ Aside0 (kq ≤ k2) ∧ Aside0 (Kd.S (Kd.slice 2 (Kd.int .i64)) 45 w' w.heap.size (fun _ => True) v439 t438) ∧ Aside0 (Below w.heap.size w w'))
            case atStart => exact ⟨(0), (by rfl), H', ⟨Nat.le_refl _⟩, ⟨zS⟩, ⟨zB⟩⟩
            case round =>
             clear H'
             obtain ⟨x9_3, rfl, HA, HK3, HO_8, HB⟩ := hrel
             cases gk with
             | zero => exact absurd HA.out (by simp [spec_DoTablesCommute.l2])
             | succ k3 =>
              have H := HA.out
              clear HA
              simp only [spec_DoTablesCommute.l2] at H
              by_cases c14 : x9_3 < (t438.length : Int)
              ·rw [if_pos c14] at H
               have c14b0 : decide (x9_3 < (t438.length : Int)) = true := decide_eq_true c14
               clear c14
               have H' := zA H
               clear H
               obtain ⟨Ao15, co15, eo15⟩ := Kd.S_slice HO_8.out
               subst eo15
               go_wp2
               go_loopg [10] k3 (fun kq v10 w' => ∃ (x10_4 : Int), v10 = .int .i64 x10_4 ∧ Aside0 (spec_DoTablesCommute.l3 kq l1 x6_1 x7_2 t438 x9_3 x10_4 = some (r1, r2)) ∧ Aside0 (kq ≤ k3) ∧ Aside0 (Kd.S (Kd.slice 2 (Kd.int .i64)) 45 w' w.heap.size (fun _ => True) (.slice Ao15 t438.length co15) t438) ∧ Aside0 (Below w.heap.size w w'))
               case atStart => exact ⟨(0), (by rfl), H', ⟨Nat.le_refl _⟩, ⟨zS⟩, ⟨zB⟩⟩
               case round =>
                clear H'
                obtain ⟨x10_4, rfl, HA, HK4, HO_8, HB⟩ := hrel
                cases gk with
                | zero => exact absurd HA.out (by simp [spec_DoTablesCommute.l3])
                | succ k4 =>
                 have H := HA.out
                 clear HA
                 simp only [spec_DoTablesCommute.l3] at H
                 by_cases c16 : x10_4 < (t438.length : Int)
                 ·rw [if_pos c16] at H
                  have c16b0 : decide (x10_4 < (t438.length : Int)) = true := decide_eq_true c16
                  clear c16
                  by_cases c17 : 0 ≤ x9_3
                  ·rw [if_pos c17] at H
                   have c17b0 : decide (0 ≤ x9_3) = true := decide_eq_true c17
                   clear c17
                   by_cases c18 : x9_3 < (t438.length : Int)
                   ·rw [if_pos c18] at H
                    have c18b0 : decide (x9_3 < (t438.length : Int)) = true := decide_eq_true c18
                    clear c18
                    by_cases c19 : 0 ≤ x10_4
                    ·rw [if_pos c19] at H
                     have c19b0 : decide (0 ≤ x10_4) = true := decide_eq_true c19
                     clear c19
                     by_cases c20 : x10_4 < ((rd_L3 t438 x9_3).length : Int)
                     ·rw [if_pos c20] at H
                      have c20b0 : decide (x10_4 < ((rd_L3 t438 x9_3).length : Int)) = true := decide_eq_true c20
                      clear c20
                      by_cases c21 : (rd (rd_L3 t438 x9_3) x10_4) = 0
                      ·rw [if_pos c21] at H
                       have c21b0 : ((rd (rd_L3 t438 x9_3) x10_4) == 0) = true := beq_iff_eq.mpr c21
                       have c21b1 : ((rd (rd_L3 t438 x9_3) x10_4) != 0) = false := bne_eq_false_iff_eq.mpr c21
                       clear c21
                       have H' := zA H
                       clear H
                       have p441 : 0 ≤ (x9_3 : Int) := zD
                       have q441 : x9_3 < (t438.length : Int) := zD
                       obtain ⟨ad441, A441_0, c441_0, e441, hx441_0, hl441_0, hi441_0⟩ := at_L3 (Kd.S_reads' HO_8.out).2.2 x9_3 p441 q441
                       cases e441
                       obtain ⟨ce441, hce441, hMe441, hcc441⟩ := Kd.S_get HO_8.out [] x9_3 p441 (by exact q441)
                       obtain ⟨ve441_0, rfl, ge441_0⟩ := hMe441
                       have hv441_0 := hcc441 0 _ rfl
                       rw [Nat.add_zero, show ((Kd.slice 2 (Kd.int .i64))).sz = 1 from rfl, Nat.mul_one] at hv441_0
                       replace hv441_0 := Option.some.inj (hv441_0.symm.trans hx441_0)
                       rw [hv441_0] at ge441_0
                       have HL441_0 := zA (show Kd.R (Kd.int .i64) 2 _ _ _ _ (rd_L3 t438 x9_3) from ge441_0)
                       clear hv441_0 ge441_0
                       clear hcc441 hce441
                       have HR441_0 := zA hi441_0
                       have HC441_0 := zA hl441_0
                       clear hi441_0 hl441_0
                       replace p441 := eq_true p441
                       replace q441 := eq_true q441
                       have p442 : 0 ≤ (x10_4 : Int) := zD
                       have q442 : x10_4 < ((rd_L3 t438 x9_3).length : Int) := zD
                       obtain ⟨ad442, e442, hx442_0⟩ := Kd.at_int (by repeat ((with_reducible exact HR441_0.out))) x10_4 p442 q442
                       cases e442
                       replace p442 := eq_true p442
                       replace q442 := eq_true q442
                       go_wp2
                       go_roundg k4
                       case measure => have := HK1.out; have := HK2.out; have := HK3.out; have := HK4.out; omega
                       case rel => exact ⟨(wrap64 (x10_4 + 1)), (by rfl), H', ⟨by have := HK1.out; have := HK2.out; have := HK3.out; have := HK4.out; omega⟩, ⟨zS⟩, ⟨zB⟩⟩
                      ·rw [if_neg c21] at H
                       have c21b0 : ((rd (rd_L3 t438 x9_3) x10_4) == 0) = false := beq_eq_false_iff_ne.mpr c21
                       have c21b1 : ((rd (rd_L3 t438 x9_3) x10_4) != 0) = true := bne_iff_ne.mpr c21
                       simp only [Option.some.injEq, Prod.mk.injEq] at H
                       obtain ⟨rfl, rfl⟩ := H
                       have p441 : 0 ≤ (x9_3 : Int) := zD
                       have q441 : x9_3 < (t438.length : Int) := zD
                       obtain ⟨ad441, A441_0, c441_0, e441, hx441_0, hl441_0, hi441_0⟩ := at_L3 (Kd.S_reads' HO_8.out).2.2 x9_3 p441 q441
                       cases e441
                       obtain ⟨ce441, hce441, hMe441, hcc441⟩ := Kd.S_get HO_8.out [] x9_3 p441 (by exact q441)
                       obtain ⟨ve441_0, rfl, ge441_0⟩ := hMe441
                       have hv441_0 := hcc441 0 _ rfl
                       rw [Nat.add_zero, show ((Kd.slice 2 (Kd.int .i64))).sz = 1 from rfl, Nat.mul_one] at hv441_0
                       replace hv441_0 := Option.some.inj (hv441_0.symm.trans hx441_0)
                       rw [hv441_0] at ge441_0
                       have HL441_0 := zA (show Kd.R (Kd.int .i64) 2 _ _ _ _ (rd_L3 t438 x9_3) from ge441_0)
                       clear hv441_0 ge441_0
                       clear hcc441 hce441
                       have HR441_0 := zA hi441_0
                       have HC441_0 := zA hl441_0
                       clear hi441_0 hl441_0
                       replace p441 := eq_true p441
                       replace q441 := eq_true q441
                       have p442 : 0 ≤ (x10_4 : Int) := zD
                       have q442 : x10_4 < ((rd_L3 t438 x9_3).length : Int) := zD
                       obtain ⟨ad442, e442, hx442_0⟩ := Kd.at_int (by repeat ((with_reducible exact HR441_0.out))) x10_4 p442 q442
                       cases e442
                       replace p442 := eq_true p442
                       replace q442 := eq_true q442
                       go_wp2
                       go_ret2
                       exact ⟨by rfl, zB⟩
                     ·rw [if_neg c20] at H
                      exact absurd H (by simp)
                    ·rw [if_neg c19] at H
                     exact absurd H (by simp)
                   ·rw [if_neg c18] at H
                    exact absurd H (by simp)
                  ·rw [if_neg c17] at H
                   exact absurd H (by simp)
                 ·rw [if_neg c16] at H
                  have c16b0 : decide (x10_4 < (t438.length : Int)) = false := decide_eq_false c16
                  clear c16
                  have H' := zA H
                  clear H
                  go_wp2
                  go_roundg k4
                  case measure => have := HK1.out; have := HK2.out; have := HK3.out; have := HK4.out; omega
                  case rel => exact ⟨(wrap64 (x9_3 + 1)), (by rfl), H', ⟨by have := HK1.out; have := HK2.out; have := HK3.out; have := HK4.out; omega⟩, ⟨zS⟩, ⟨zB⟩⟩
              ·rw [if_neg c14] at H
               have c14b0 : decide (x9_3 < (t438.length : Int)) = false := decide_eq_false c14
               clear c14
               have H' := zA H
               clear H
               obtain ⟨Ao22, co22, eo22⟩ := Kd.S_slice HO_8.out
               subst eo22
               go_wp2
               go_roundg k3
               case measure => have := HK1.out; have := HK2.out; have := HK3.out; omega
               case rel => exact ⟨(wrap64 (x7_2 + 1)), (by rfl), H', ⟨by have := HK1.out; have := HK2.out; have := HK3.out; omega⟩, ⟨zB⟩⟩
           ·rw [if_neg c10] at H
            exact absurd H (by simp)
          ·rw [if_neg c9] at H
           exact absurd H (by simp)
         ·rw [if_neg c8] at H
          exact absurd H (by simp)
        ·rw [if_neg c7] at H
         exact absurd H (by simp)
       ·rw [if_neg c6] at H
        have c6b0 : decide (x7_2 < x6_1) = false := decide_eq_false c6
        clear c6
        have H' := zA H
        clear H
        go_wp2
        go_roundg k2
        case measure => have := HK1.out; have := HK2.out; omega
        case rel => exact ⟨(wrap64 (x6_1 + 1)), (by rfl), H', ⟨by have := HK1.out; have := HK2.out; omega⟩, ⟨zB⟩⟩
    ·rw [if_neg c5] at H
     have c5b0 : decide (x6_1 < (l1.length : Int)) = false := decide_eq_false c5
     clear c5
     simp only [Option.some.injEq, Prod.mk.injEq] at H
     obtain ⟨rfl, rfl⟩ := H
     go_wp2
     go_ret2
     exact ⟨by rfl, zB⟩
 ·replace c4 := Bool.eq_false_iff.mpr c4
  subst c4
  have H1 : (some (false, 1)) = some (r1, r2) := by rw [if_neg (show ¬ (false = true) by decide)] at H; exact H
  clear H
  have H := H1
  clear H1
  simp only [Option.some.injEq, Prod.mk.injEq] at H
  obtain ⟨rfl, rfl⟩ := H
  go_enter Try.func17, Try.ntmps17
  go_wp2_with (first | ((with_reducible refine gate_callee (f := 48) rfl ?_); refine goesL_ (some 13) rfl rfl Try.func48 (by kernel_rfl) rfl #[.int .i64 a0, .slice A1 l1.length c1] rfl zM ?_; (with_reducible refine (spec_l08Are.calls k a0 _ _ l1 false _ ?side1 ?side2 A3.out).mono ?_); (case side1 => repeat (exact HR1.out)); (case side2 => exact HC1.out); rintro e w' ⟨rfl, ⟨nd, rfl⟩⟩; refine ⟨_, rfl, ?_⟩))
  go_ret2
  exact ⟨by rfl, zB⟩

/-! ### spec_DrawTablesOfWord: function 18 -/
def spec_DrawTablesOfWord.f (k : Nat) (l0 : List Int) : Option (Int × ByteArray) := (spec_l08With.f k l0).bind fun bt443 => (some (bt443.1, bt443.2.2))
theorem spec_DrawTablesOfWord.mono : ∀ a0 k, LeO (spec_DrawTablesOfWord.f k a0) (spec_DrawTablesOfWord.f (k + 1) a0) := by
 intro a0 k
 unfold spec_DrawTablesOfWord.f
 repeat' first
  | (with_reducible exact spec_l08With.mono _ _)
  | (with_reducible exact LeO.refl _)
  | (with_reducible exact LeO.none _)
  | (with_reducible refine LeO.ite ?_ ?_)
  | (with_reducible refine LeO.bind ?_ (fun _ => ?_))
theorem spec_DrawTablesOfWord.calls (k : Nat) (A0 : Option Addr) (c0 : Nat) (l0 : List Int) (r1 : Int) (r2 : ByteArray) (w : World) (hr0 : Kd.C (Kd.int .u8) w A0 l0.length l0) (hc0 : l0.length ≤ c0) (h : spec_DrawTablesOfWord.f k l0 = some (r1, r2)) :
 Calls Try.prog 18 #[.slice A0 l0.length c0] w fun e w' => e = .returned (.tuple #[.int .i64 r1, .string r2]) ∧ Below w.heap.size w w' := by
 have HR0 := zA hr0
 have HC0 := zA hc0
 clear hr0 hc0
 have HB := zA (Below.refl w.heap.size w)
 have H : ((spec_l08With.f k l0).bind fun bt443 => (some (bt443.1, bt443.2.2))) = some (r1, r2) := h
 clear h
 replace H := Option.bind_eq_some_iff.mp H
 obtain ⟨⟨t443, t444, t447⟩, A20, H⟩ := H
 replace H : (some (t443, t447)) = some (r1, r2) := H
 have A2 := zA A20
 clear A20
 simp only [Option.some.injEq, Prod.mk.injEq] at H
 obtain ⟨rfl, rfl⟩ := H
 go_enter Try.func18, Try.ntmps18
 go_wp2_with (first | ((with_reducible refine gate_callee (f := 45) rfl ?_); refine goesL_ (some 9) rfl rfl Try.func45 (by kernel_rfl) rfl #[.slice A0 l0.length c0] rfl zM ?_; (with_reducible refine (spec_l08With.calls k _ _ l0 t443 t444 t447 _ ?side1 ?side2 A2.out).mono ?_); (case side1 => repeat (exact HR0.out)); (case side2 => exact HC0.out); rintro e w3 ⟨v445, rfl, ho0, hb⟩; refine ⟨_, rfl, ?_⟩; have HO446 := zA (Kd.N_lower (Kd.N_mono (ok' := fun k_ => True) ho0 (fun k_ hk_ => trivial)) (below_size zB)); replace HB := zA (below_step zB hb); (try clear hb); (try clear hb2); (try clear hk); (try clear hi); (try clear ho0)))
 go_ret2
 exact ⟨by rfl, zB⟩


end Go.Proofs.Ytkbneilobaehkaa.P
