/- What a call of each Go function named below comes to is what the plain Lean function beside it says. Made by a program of this session out of the print of the translation; Lean checks it. -/
import Derived.Test.YtkbneilobaehkaaPx0
import Derived.Test.YtkbneilobaehkaaPx7
namespace Go.Proofs.Ytkbneilobaehkaa.P
open Go.RowKit Go.Proofs.YtkbneilobaehkaaW.PrintWords Go.Proofs.YtkbneilobaehkaaW.PrintLast Go.Proofs.YtkbneilobaehkaaW.PrintMore
attribute [local go_sem] max2_int min2_int max_two min_two max_three min_three max_four min_four   -- for this text's walks alone
set_option linter.unusedVariables false
set_option linter.unusedSimpArgs false


/-! ### spec_l08Times: function 92 -/
mutual
def spec_l08Times.l0 : Nat → List (List Int) → List (List Int) → List (List Int) → Int → Option ((List (List Int)) × Bool)
 | 0, _, _, _, _ => none
 | k + 1, x0, x1, x6, x7 => if x7 < (x0.length : Int) then (if 0 ≤ (x1.length : Int) then (if ((x1.length : Int) : Int).toNat ≤ 35184372088832 then (spec_l08Times.l1 k x0 x1 x6 x7 (List.replicate ((x1.length : Int) : Int).toNat 0) 0) else (none)) else (none)) else (some (x6, true))
def spec_l08Times.l1 : Nat → List (List Int) → List (List Int) → List (List Int) → Int → List Int → Int → Option ((List (List Int)) × Bool)
 | 0, _, _, _, _, _, _ => none
 | k + 1, x0, x1, x6, x7, x8, x9 => if x9 < (x1.length : Int) then (spec_l08Times.l2 k x0 x1 x6 x7 x8 x9 0) else (if x6.length < 5864062014805 then (spec_l08Times.l0 k x0 x1 (x6 ++ [x8]) (wrap64 (x7 + 1))) else (none))
def spec_l08Times.l2 : Nat → List (List Int) → List (List Int) → List (List Int) → Int → List Int → Int → Int → Option ((List (List Int)) × Bool)
 | 0, _, _, _, _, _, _, _ => none
 | k + 1, x0, x1, x6, x7, x8, x9, x10 => if x10 < (x1.length : Int) then (if 0 ≤ x9 then (if x9 < (x8.length : Int) then (if 0 ≤ x7 then (if x7 < (x0.length : Int) then (if 0 ≤ x10 then (if x10 < ((rd_L3 x0 x7).length : Int) then (if x9 < ((rd_L3 x1 x10).length : Int) then (spec_l08Times.l2 k x0 x1 x6 x7 (x8.set (x9 : Int).toNat (wrap64 ((rd x8 x9) + (wrap64 ((rd (rd_L3 x0 x7) x10) * (rd (rd_L3 x1 x10) x9)))))) x9 (wrap64 (x10 + 1))) else (none)) else (none)) else (none)) else (none)) else (none)) else (none)) else (none)) else (if 0 ≤ x9 then (if x9 < (x8.length : Int) then ((spec_l01In.f (rd x8 x9) (-1000000000) 1000000000).bind fun t289 => (if t289 = true then (spec_l08Times.l1 k x0 x1 x6 x7 x8 (wrap64 (x9 + 1))) else (some (([] : List (List Int)), false)))) else (none)) else (none))
end
def spec_l08Times.f (k : Nat) (l0 : List (List Int)) (l1 : List (List Int)) : Option ((List (List Int)) × Bool) := spec_l08Times.l0 k l0 l1 (([] : List (List Int))) 0
theorem spec_l08Times.mono_l : ∀ k, (∀ y0 y1 y2 y3, LeO (spec_l08Times.l0 k y0 y1 y2 y3) (spec_l08Times.l0 (k + 1) y0 y1 y2 y3)) ∧ (∀ y0 y1 y2 y3 y4 y5, LeO (spec_l08Times.l1 k y0 y1 y2 y3 y4 y5) (spec_l08Times.l1 (k + 1) y0 y1 y2 y3 y4 y5)) ∧ (∀ y0 y1 y2 y3 y4 y5 y6, LeO (spec_l08Times.l2 k y0 y1 y2 y3 y4 y5 y6) (spec_l08Times.l2 (k + 1) y0 y1 y2 y3 y4 y5 y6))
 | 0 => ⟨fun _ _ _ _ r h => by simp [spec_l08Times.l0] at h, fun _ _ _ _ _ _ r h => by simp [spec_l08Times.l1] at h, fun _ _ _ _ _ _ _ r h => by simp [spec_l08Times.l2] at h⟩
 | k + 1 => by
  obtain ⟨ih0, ih1, ih2⟩ := spec_l08Times.mono_l k
  refine ⟨?_, ?_, ?_⟩
  ·intro y0 y1 y2 y3
   unfold spec_l08Times.l0
   repeat' first
   | (with_reducible exact ih0 _ _ _ _)
   | (with_reducible exact ih1 _ _ _ _ _ _)
   | (with_reducible exact ih2 _ _ _ _ _ _ _)
   | (with_reducible exact LeO.refl _)
   | (with_reducible exact LeO.none _)
   | (with_reducible refine LeO.ite ?_ ?_)
   | (with_reducible refine LeO.bind ?_ (fun _ => ?_))
  ·intro y0 y1 y2 y3 y4 y5
   unfold spec_l08Times.l1
   repeat' first
   | (with_reducible exact ih0 _ _ _ _)
   | (with_reducible exact ih1 _ _ _ _ _ _)
   | (with_reducible exact ih2 _ _ _ _ _ _ _)
   | (with_reducible exact LeO.refl _)
   | (with_reducible exact LeO.none _)
   | (with_reducible refine LeO.ite ?_ ?_)
   | (with_reducible refine LeO.bind ?_ (fun _ => ?_))
  ·intro y0 y1 y2 y3 y4 y5 y6
   unfold spec_l08Times.l2
   repeat' first
   | (with_reducible exact ih0 _ _ _ _)
   | (with_reducible exact ih1 _ _ _ _ _ _)
   | (with_reducible exact ih2 _ _ _ _ _ _ _)
   | (with_reducible exact LeO.refl _)
   | (with_reducible exact LeO.none _)
   | (with_reducible refine LeO.ite ?_ ?_)
   | (with_reducible refine LeO.bind ?_ (fun _ => ?_))
theorem spec_l08Times.mono : ∀ a0 a1 k, LeO (spec_l08Times.f k a0 a1) (spec_l08Times.f (k + 1) a0 a1) := by
 intro a0 a1 k
 obtain ⟨ih0, ih1, ih2⟩ := spec_l08Times.mono_l k
 unfold spec_l08Times.f
 repeat' first
  | (with_reducible exact ih0 _ _ _ _)
  | (with_reducible exact ih1 _ _ _ _ _ _)
  | (with_reducible exact ih2 _ _ _ _ _ _ _)
  | (with_reducible exact LeO.refl _)
  | (with_reducible exact LeO.none _)
  | (with_reducible refine LeO.ite ?_ ?_)
  | (with_reducible refine LeO.bind ?_ (fun _ => ?_))
def spec_l08Times.T12 : Bool × List (List Nat × List Nat) := (true, [([], []), ([], []), ([], []), ([], []), ([2, 3], [2, 3]), ([4], [4]), ([], []), ([], []), ([6, 7], [6, 7]), ([8], [8]), ([], []), ([9, 10], [9, 10]), ([11], [11]), ([], []), ([], []), ([13, 14], [13, 14]), ([15], [15]), ([], []), ([16, 17], [16, 17]), ([18], [18]), ([12, 19], [12, 19]), ([5, 20], [5, 20]), ([0, 1, 0, 1, 2, 3, 4, 5, 6, 7, 8, 9, 10, 11, 12, 13, 14, 15, 16, 17, 18, 19, 20, 21], [0, 1]), ([22, 21, 0, 1, 2, 3, 4, 5, 6, 7, 8, 9, 10, 11, 12, 13, 14, 15, 16, 17, 18, 19, 20, 21], [21, 22])])
def spec_l08Times.B12 : List Nat := [0, 0, 0, 0, 12, 28, 0, 0, 192, 448, 0, 1984, 4032, 0, 0, 24576, 57344, 0, 253952, 516096, 1048512, 2097148, 4194303, 8388607]
theorem spec_l08Times.tab12 : rtab .any (opsOf Try.f92 12) = spec_l08Times.T12 := by kernel_rfl
theorem spec_l08Times.bits12 : waitsOk spec_l08Times.T12.2 spec_l08Times.B12 = true := by kernel_rfl
set_option maxHeartbeats 8000000 in
set_option maxRecDepth 100000 in
theorem spec_l08Times.calls (k : Nat) (A0 : Option Addr) (c0 : Nat) (l0 : List (List Int)) (A1 : Option Addr) (c1 : Nat) (l1 : List (List Int)) (r1 : List (List Int)) (r2 : Bool) (w : World) (hr0 : Kd.C (Kd.slice 2 (Kd.int .i64)) w A0 l0.length l0) (hc0 : l0.length ≤ c0) (hr1 : Kd.C (Kd.slice 2 (Kd.int .i64)) w A1 l1.length l1) (hc1 : l1.length ≤ c1) (h : spec_l08Times.f k l0 l1 = some (r1, r2)) :
 Calls Try.prog 92 #[.slice A0 l0.length c0, .slice A1 l1.length c1] w fun e w' => ∃ v0_ : Value, e = .returned (.tuple #[v0_, .bool r2]) ∧ Kd.S (Kd.slice 2 (Kd.int .i64)) 45 w' w.heap.size (fun _ => True) v0_ r1 ∧ Below w.heap.size w w' := by
 have HR0 := zA hr0
 have HC0 := zA hc0
 clear hr0 hc0
 have HR1 := zA hr1
 have HC1 := zA hc1
 clear hr1 hc1
 have HB := zA (Below.refl w.heap.size w)
 have H : (spec_l08Times.l0 k l0 l1 (([] : List (List Int))) 0) = some (r1, r2) := h
 clear h
 obtain ⟨y273, hy273⟩ : ∃ y_ : List (List Int), y_ = (([] : List (List Int))) := ⟨_, rfl⟩
 replace H : (spec_l08Times.l0 k l0 l1 y273 0) = some (r1, r2) := by (rw [hy273]; with_reducible exact H)
 have Ny273 := zA hy273
 clear hy273
 have H' := zA H
 clear H
 go_enter Try.func92, Try.ntmps92
 go_wp2_with (first | ((with_reducible refine gate_dst (N := 11) rfl ?_); refine Kd.S_lit (Kd.slice 2 (Kd.int .i64)) _ 45 ?hg (N := 11) ?hd (xs := ([] : List (List Int))) (inner := []) (ok := fun _ => True) (okp := fun _ => True) ?hr ?hp (fun _ hk => hk) trivial (Below.refl _ _) (Nat.le_refl _) (by simp) ?_; (case hd => rfl); (case hg => rfl); (case hr => (go_simp; done)); (case hp => exact (Reps.none _ _)); intro v274 w3 ho4 hb hg_ hnew_; clear hg_ hnew_; (rw [← Ny273.out] at ho4); have HO275 := zA (Kd.S_lower ho4 (below_size zB)); replace HB := zA (below_step zB hb); clear hb ho4))
 go_loopg [6, 7] k (fun kq v6 v7 w' => ∃ (x6_1 : List (List Int)) (x7_1 : Int), v7 = .int .i64 x7_1 ∧ Aside0 (spec_l08Times.l0 kq l0 l1 x6_1 x7_1 = some (r1, r2)) ∧ Aside0 (kq ≤ k) ∧ Aside0 (Kd.S (Kd.slice 2 (Kd.int .i64)) 45 w' w.heap.size (fun _ => True) v6 x6_1) ∧ Aside0 (Below w.heap.size w w'))
 case atStart => exact ⟨(y273), (0), (by rfl), H', ⟨Nat.le_refl _⟩, ⟨zS⟩, ⟨zB⟩⟩
 case round =>
  clear H'
  obtain ⟨x6_1, x7_1, rfl, HA, HK1, HO_6, HB⟩ := hrel
  cases gk with
  | zero => exact absurd HA.out (by simp [spec_l08Times.l0])
  | succ k1 =>
   have H := HA.out
   clear HA
   simp only [spec_l08Times.l0] at H
   by_cases c5 : x7_1 < (l0.length : Int)
   ·rw [if_pos c5] at H
    have c5b0 : decide (x7_1 < (l0.length : Int)) = true := decide_eq_true c5
    clear c5
    by_cases c6 : 0 ≤ (l1.length : Int)
    ·rw [if_pos c6] at H
     have c6b0 := eq_true c6
     have c6b1 : decide (0 ≤ (l1.length : Int)) = true := decide_eq_true c6
     clear c6
     by_cases c7 : ((l1.length : Int) : Int).toNat ≤ 35184372088832
     ·rw [if_pos c7] at H
      have c7b0 := eq_true c7
      have c7b1 : decide (((l1.length : Int) : Int).toNat ≤ 35184372088832) = true := decide_eq_true c7
      clear c7
      obtain ⟨y276, hy276⟩ : ∃ y_ : List Int, y_ = (List.replicate ((l1.length : Int) : Int).toNat 0) := ⟨_, rfl⟩
      replace H : (spec_l08Times.l1 k1 l0 l1 x6_1 x7_1 y276 0) = some (r1, r2) := by (rw [hy276]; with_reducible exact H)
      have Ny276 := zA hy276
      clear hy276
      have H' := zA H
      clear H
      go_wp2_with (first | ((with_reducible refine gate_dst (N := 20) rfl ?_); refine Kd.R_make (Kd.int .i64) _ 2 rfl (N := 20) rfl 45 _ _ rfl (l1.length : Int) rfl rfl Try.underlying45 (.int .i64 0) 8 info2 rfl (by decide) (by omega) 0 (ok := fun _ => True) (okp := fun _ => True) rfl (fun _ hk => hk) trivial (zD) (Nat.le_trans (Nat.mul_le_mul_right _ (zD : (l1.length : Int).toNat ≤ 35184372088832)) (by omega)) (Below.refl _ _) (Nat.le_refl _) ?_; intro v277 w8 ho9 hb hg_ hnew_; clear hg_ hnew_; (rw [← Ny276.out] at ho9); have HO278 := zA (Kd.R_lower ho9 (below_size zB)); replace HO_6 := zA (Kd.S_elder' zS (Kd.R_base ho9) hb); replace HB := zA (below_step zB hb); clear hb ho9))
      go_loopg [9] k1 (fun kq v9 w' => ∃ (x8_2 : List Int) (x9_2 : Int), v9 = .int .i64 x9_2 ∧ Aside0 (spec_l08Times.l1 kq l0 l1 x6_1 x7_1 x8_2 x9_2 = some (r1, r2)) ∧ Aside0 (kq ≤ k1) ∧ Aside0 (Kd.S (Kd.slice 2 (Kd.int .i64)) 45 w' w.heap.size (fun k_ => some k_ ≠ (v277 : Value).ownBlock) u6 x6_1) ∧ Aside0 (Kd.R (Kd.int .i64) 2 w' w.heap.size (fun _ => True) v277 x8_2) ∧ Aside0 (Below w.heap.size w w'))
      case atStart => exact ⟨(y276), (0), (by rfl), H', ⟨Nat.le_refl _⟩, ⟨by exact Kd.S_mono HO_6.out (fun _ hk => hk.2)⟩, ⟨zR⟩, ⟨zB⟩⟩
      case round =>
       clear H'
       obtain ⟨x8_2, x9_2, rfl, HA, HK2, HO_6, HO_8, HB⟩ := hrel
       cases gk with
       | zero => exact absurd HA.out (by simp [spec_l08Times.l1])
       | succ k2 =>
        have H := HA.out
        clear HA
        simp only [spec_l08Times.l1] at H
        by_cases c10 : x9_2 < (l1.length : Int)
        ·rw [if_pos c10] at H
         have c10b0 : decide (x9_2 < (l1.length : Int)) = true := decide_eq_true c10
         clear c10
         have H' := zA H
         clear H
         go_wp2
         go_loopg [10] k2 (fun kq v10 w' => ∃ (x8_3 : List Int) (x10_3 : Int), v10 = .int .i64 x10_3 ∧ Aside0 (spec_l08Times.l2 kq l0 l1 x6_1 x7_1 x8_3 x9_2 x10_3 = some (r1, r2)) ∧ Aside0 (kq ≤ k2) ∧ Aside0 (Kd.S (Kd.slice 2 (Kd.int .i64)) 45 w' w.heap.size (fun k_ => some k_ ≠ (v277 : Value).ownBlock) u6 x6_1) ∧ Aside0 (Kd.R (Kd.int .i64) 2 w' w.heap.size (fun _ => True) v277 x8_3) ∧ Aside0 (Below w.heap.size w w'))
         case atStart => exact ⟨(x8_2), (0), (by rfl), H', ⟨Nat.le_refl _⟩, ⟨zS⟩, ⟨zR⟩, ⟨zB⟩⟩
         case round =>
          clear H'
          obtain ⟨x8_3, x10_3, rfl, HA, HK3, HO_6, HO_8, HB⟩ := hrel
          cases gk with
          | zero => exact absurd HA.out (by simp [spec_l08Times.l2])
          | succ k3 =>
           have H := HA.out
           clear HA
           simp only [spec_l08Times.l2] at H
           by_cases c11 : x10_3 < (l1.length : Int)
           ·rw [if_pos c11] at H
            have c11b0 : decide (x10_3 < (l1.length : Int)) = true := decide_eq_true c11
            clear c11
            by_cases c12 : 0 ≤ x9_2
            ·rw [if_pos c12] at H
             have c12b0 : decide (0 ≤ x9_2) = true := decide_eq_true c12
             clear c12
             by_cases c13 : x9_2 < (x8_3.length : Int)
             ·rw [if_pos c13] at H
              have c13b0 : decide (x9_2 < (x8_3.length : Int)) = true := decide_eq_true c13
              clear c13
              by_cases c14 : 0 ≤ x7_1
              ·rw [if_pos c14] at H
               have c14b0 : decide (0 ≤ x7_1) = true := decide_eq_true c14
               clear c14
               by_cases c15 : x7_1 < (l0.length : Int)
               ·rw [if_pos c15] at H
                have c15b0 : decide (x7_1 < (l0.length : Int)) = true := decide_eq_true c15
                clear c15
                by_cases c16 : 0 ≤ x10_3
                ·rw [if_pos c16] at H
                 have c16b0 : decide (0 ≤ x10_3) = true := decide_eq_true c16
                 clear c16
                 by_cases c17 : x10_3 < ((rd_L3 l0 x7_1).length : Int)
                 ·rw [if_pos c17] at H
                  have c17b0 : decide (x10_3 < ((rd_L3 l0 x7_1).length : Int)) = true := decide_eq_true c17
                  clear c17
                  by_cases c18 : x9_2 < ((rd_L3 l1 x10_3).length : Int)
                  ·rw [if_pos c18] at H
                   have c18b0 : decide (x9_2 < ((rd_L3 l1 x10_3).length : Int)) = true := decide_eq_true c18
                   clear c18
                   obtain ⟨y287, hy287⟩ : ∃ y_ : List Int, y_ = (x8_3.set (x9_2 : Int).toNat (wrap64 ((rd x8_3 x9_2) + (wrap64 ((rd (rd_L3 l0 x7_1) x10_3) * (rd (rd_L3 l1 x10_3) x9_2)))))) := ⟨_, rfl⟩
                   replace H : (spec_l08Times.l2 k3 l0 l1 x6_1 x7_1 y287 x9_2 (wrap64 (x10_3 + 1))) = some (r1, r2) := by (rw [hy287]; with_reducible exact H)
                   have Ny287 := zA hy287
                   clear hy287
                   have H' := zA H
                   clear H
                   try go_wp2
                   replace HO_6 := zA (Kd.S_drew HO_6.out)
                   replace HO_8 := zA (Kd.R_drew HO_8.out)
                   replace HB := zA (below_drew1 HB.out)
                   obtain ⟨Ao21, co21, eo21⟩ := Kd.R_slice HO_8.out
                   (subst eo21)
                   have p282 : 0 ≤ (x9_2 : Int) := zD
                   have q282 : x9_2 < (x8_3.length : Int) := zD
                   obtain ⟨ad282, e282, hx282_0⟩ := Kd.at_int (Kd.R_reads' HO_8.out).2.2 x9_2 p282 q282
                   cases e282
                   replace p282 := eq_true p282
                   replace q282 := eq_true q282
                   have p283 : 0 ≤ (x7_1 : Int) := zD
                   have q283 : x7_1 < (l0.length : Int) := zD
                   obtain ⟨ad283, A283_0, c283_0, e283, hx283_0, hl283_0, hi283_0⟩ := at_L3 HR0.out x7_1 p283 q283
                   have hw283_0 := hx283_0
                   cases e283
                   replace hx283_0 := zH HB hx283_0
                   have HR283_0 := zA hi283_0
                   have HC283_0 := zA hl283_0
                   clear hi283_0 hl283_0
                   replace p283 := eq_true p283
                   replace q283 := eq_true q283
                   have p284 : 0 ≤ (x10_3 : Int) := zD
                   have q284 : x10_3 < ((rd_L3 l0 x7_1).length : Int) := zD
                   obtain ⟨ad284, e284, hx284_0⟩ := Kd.at_int HR283_0.out x10_3 p284 q284
                   have hw284_0 := hx284_0
                   cases e284
                   replace hx284_0 := zH HB hx284_0
                   replace p284 := eq_true p284
                   replace q284 := eq_true q284
                   have p285 : 0 ≤ (x10_3 : Int) := zD
                   have q285 : x10_3 < (l1.length : Int) := zD
                   obtain ⟨ad285, A285_0, c285_0, e285, hx285_0, hl285_0, hi285_0⟩ := at_L3 HR1.out x10_3 p285 q285
                   have hw285_0 := hx285_0
                   cases e285
                   replace hx285_0 := zH HB hx285_0
                   have HR285_0 := zA hi285_0
                   have HC285_0 := zA hl285_0
                   clear hi285_0 hl285_0
                   replace p285 := eq_true p285
                   replace q285 := eq_true q285
                   have p286 : 0 ≤ (x9_2 : Int) := zD
                   have q286 : x9_2 < ((rd_L3 l1 x10_3).length : Int) := zD
                   obtain ⟨ad286, e286, hx286_0⟩ := Kd.at_int HR285_0.out x9_2 p286 q286
                   have hw286_0 := hx286_0
                   cases e286
                   replace hx286_0 := zH HB hx286_0
                   replace p286 := eq_true p286
                   replace q286 := eq_true q286
                   have p19 : 0 ≤ (x9_2 : Int) := zD
                   have q19 : (x9_2 : Int) < ((x8_3.length : Int) : Int) := zD
                   obtain ⟨go19, co19, eo19, gb19, gl19, cl19, HG19⟩ := Kd.R_form HO_8.out (by omega)
                   (cases eo19)
                   have GB19 := zA gb19
                   have GG19 := zA HG19
                   clear gb19 gl19 HG19
                   (simp only [add_plain] at hx282_0)
                   obtain ⟨hx19_0, hf19_0⟩ := Kd.R_celln 0 HO_8.out (x9_2 : Int) p19 q19
                   replace p19 := eq_true p19
                   replace q19 := eq_true q19
                   have HP22 := Kd.R_putn HO_8.out (x9_2 : Int) (wrap64 ((rd x8_3 x9_2) + (wrap64 ((rd (rd_L3 l0 x7_1) x10_3) * (rd (rd_L3 l1 x10_3) x9_2)))))
                   rw [← Ny287.out] at HP22
                   have HQ22 := zA HP22
                   clear HP22
                   refine start_ (n := 24) (S := fun w' => w'.cell? ⟨go19, (x9_2).toNat, none⟩ = some (.int .i64 (rd x8_3 x9_2)) ∧ w'.cell? (ad283.add (x7_1).toNat) = some (.slice (some ad284) (rd_L3 l0 x7_1).length c283_0) ∧ w'.cell? (ad284.add (x10_3).toNat) = some (.int .i64 (rd (rd_L3 l0 x7_1) x10_3)) ∧ w'.cell? (ad285.add (x10_3).toNat) = some (.slice (some ad286) (rd_L3 l1 x10_3).length c285_0) ∧ w'.cell? (ad286.add (x9_2).toNat) = some (.int .i64 (rd (rd_L3 l1 x10_3) x9_2))) (ds := [23]) #[false, false, false, false, false, false, false, false, false, false, false, false, false, false, false, false, false, false, false, false, false, false, false, false] (by kernel_rfl) rfl rfl ⟨hx282_0, (zH HB hw283_0 :), (zH HB hw284_0 :), (zH HB hw285_0 :), (zH HB hw286_0 :)⟩ (fun hHeld => ?_); refine with_tabW spec_l08Times.tab12 spec_l08Times.bits12 (fun HT_ HW_ => ?_)
                   generalize wr.drew = w20 at HO_6 HO_8 HB GG19 HQ22 HR283_0 HR285_0 hf19_0 hx19_0 hx282_0 hx283_0 hx284_0 hx285_0 hx286_0 hHeld ⊢
                   refine zP 0 (N := some 33) (h := ?_)
                   refine zP 1 (N := some 34) (h := ?_)
                   refine zP 2 (N := some 35) (h := ?_)
                   refine zP 3 (N := some 36) (h := ?_)
                   refine zP 4 (N := some 37) (h := ?_)
                   refine zP 6 (N := some 39) (h := ?_)
                   refine zP 7 (N := some 40) (h := ?_)
                   refine zP 8 (N := some 41) (h := ?_)
                   refine zP 10 (N := some 43) (h := ?_)
                   refine zP 13 (N := some 46) (h := ?_)
                   refine zP 14 (N := some 47) (h := ?_)
                   refine zP 15 (N := some 48) (h := ?_)
                   refine zP 17 (N := some 50) (h := ?_)
                   refine zT 5 hHeld (N := some 38) (h := ?_)
                   refine zT 9 hHeld (N := some 42) (h := ?_)
                   refine zP 11 (N := some 44) (h := ?_)
                   refine zT 12 hHeld (N := some 45) (h := ?_)
                   refine zT 16 hHeld (N := some 49) (h := ?_)
                   refine zP 18 (N := some 51) (h := ?_)
                   refine zT 19 hHeld (N := some 52) (h := ?_)
                   refine zP 20 (N := some 53) (h := ?_)
                   refine zP 21 (N := some 54) (h := ?_)
                   refine zP 22 (N := some 55) (h := ?_)
                   refine last_ (i := 23) (N := none) #[true, true, true, true, true, true, true, true, true, true, true, true, true, true, true, true, true, true, true, true, true, true, true, true] rfl rfl (one_of HT_.out (by kernel_rfl)) (by decide) (fun K hK => ?_)
                   refine skip_ (w1 := ?_) (by rfl) rfl ?_ ?_
                   rotate_left
                   ·go_simp
                    rfl
                   refine hK.out _ _ ?_
                   clear hK K
                   refine done_ (done_of HT_.out (by kernel_rfl)) ?_
                   try go_wp2
                   go_roundg k3
                   case measure => have := HK1.out; have := HK2.out; have := HK3.out; omega
                   case rel => exact ⟨(y287), (wrap64 (x10_3 + 1)), (by rfl), H', ⟨by have := HK1.out; have := HK2.out; have := HK3.out; omega⟩, ⟨by exact Kd.S_mono (Kd.S_far (p := ⟨go19, (x9_2 : Int).toNat, none⟩) (Kd.S_mono HO_6.out (fun k_ hk => (⟨hk, fun e_ => hk (by rw [e_]; rfl)⟩ : _ ∧ k_ ≠ go19))) (fun _ hk => hk.2) (.int .i64 (wrap64 ((rd x8_3 x9_2) + (wrap64 ((rd (rd_L3 l0 x7_1) x10_3) * (rd (rd_L3 l1 x10_3) x9_2))))))) (fun _ hk => hk.1)⟩, ⟨zR⟩, ⟨by repeat ((with_reducible first | exact HB.out | refine below_set ?_ GB19.out))⟩⟩
                  ·rw [if_neg c18] at H
                   exact absurd H (by simp)
                 ·rw [if_neg c17] at H
                  exact absurd H (by simp)
                ·rw [if_neg c16] at H
                 exact absurd H (by simp)
               ·rw [if_neg c15] at H
                exact absurd H (by simp)
              ·rw [if_neg c14] at H
               exact absurd H (by simp)
             ·rw [if_neg c13] at H
              exact absurd H (by simp)
            ·rw [if_neg c12] at H
             exact absurd H (by simp)
           ·rw [if_neg c11] at H
            have c11b0 : decide (x10_3 < (l1.length : Int)) = false := decide_eq_false c11
            clear c11
            by_cases c23 : 0 ≤ x9_2
            ·rw [if_pos c23] at H
             have c23b0 : decide (0 ≤ x9_2) = true := decide_eq_true c23
             clear c23
             by_cases c24 : x9_2 < (x8_3.length : Int)
             ·rw [if_pos c24] at H
              have c24b0 : decide (x9_2 < (x8_3.length : Int)) = true := decide_eq_true c24
              clear c24
              replace H := Option.bind_eq_some_iff.mp H
              obtain ⟨t289, A250, H⟩ := H
              replace H : (if t289 = true then (spec_l08Times.l1 k3 l0 l1 x6_1 x7_1 x8_3 (wrap64 (x9_2 + 1))) else (some (([] : List (List Int)), false))) = some (r1, r2) := H
              have A25 := zA A250
              clear A250
              by_cases c26 : t289 = true
              ·subst c26
               have H1 : (spec_l08Times.l1 k3 l0 l1 x6_1 x7_1 x8_3 (wrap64 (x9_2 + 1))) = some (r1, r2) := by rw [if_pos rfl] at H; exact H
               clear H
               have H := H1
               clear H1
               have H' := zA H
               clear H
               obtain ⟨Ao27, co27, eo27⟩ := Kd.R_slice HO_8.out
               subst eo27
               have p288 : 0 ≤ (x9_2 : Int) := zD
               have q288 : x9_2 < (x8_3.length : Int) := zD
               obtain ⟨ad288, e288, hx288_0⟩ := Kd.at_int (Kd.R_reads' HO_8.out).2.2 x9_2 p288 q288
               cases e288
               replace p288 := eq_true p288
               replace q288 := eq_true q288
               go_wp2_with (first | ((with_reducible refine gate_callee (f := 61) rfl ?_); refine goesL_ (some 60) rfl rfl Try.func61 (by kernel_rfl) rfl #[.int .i64 (rd x8_3 x9_2), .int .i64 (-1000000000), .int .i64 1000000000] rfl zM ?_; (with_reducible refine (spec_l01In.calls (rd x8_3 x9_2) (-1000000000) 1000000000 true _ A25.out).mono ?_); rintro e w' ⟨rfl, ⟨nd, rfl⟩⟩; refine ⟨_, rfl, ?_⟩))
               go_roundg k3
               case measure => have := HK1.out; have := HK2.out; have := HK3.out; omega
               case rel => exact ⟨(x8_3), (wrap64 (x9_2 + 1)), (by rfl), H', ⟨by have := HK1.out; have := HK2.out; have := HK3.out; omega⟩, ⟨zS⟩, ⟨zR⟩, ⟨zB⟩⟩
              ·replace c26 := Bool.eq_false_iff.mpr c26
               subst c26
               have H1 : (some (([] : List (List Int)), false)) = some (r1, r2) := by rw [if_neg (show ¬ (false = true) by decide)] at H; exact H
               clear H
               have H := H1
               clear H1
               simp only [Option.some.injEq, Prod.mk.injEq] at H
               obtain ⟨rfl, rfl⟩ := H
               obtain ⟨Ao28, co28, eo28⟩ := Kd.R_slice HO_8.out
               subst eo28
               have p288 : 0 ≤ (x9_2 : Int) := zD
               have q288 : x9_2 < (x8_3.length : Int) := zD
               obtain ⟨ad288, e288, hx288_0⟩ := Kd.at_int (Kd.R_reads' HO_8.out).2.2 x9_2 p288 q288
               cases e288
               replace p288 := eq_true p288
               replace q288 := eq_true q288
               go_wp2_with (first | ((with_reducible refine gate_callee (f := 61) rfl ?_); refine goesL_ (some 60) rfl rfl Try.func61 (by kernel_rfl) rfl #[.int .i64 (rd x8_3 x9_2), .int .i64 (-1000000000), .int .i64 1000000000] rfl zM ?_; (with_reducible refine (spec_l01In.calls (rd x8_3 x9_2) (-1000000000) 1000000000 false _ A25.out).mono ?_); rintro e w' ⟨rfl, ⟨nd, rfl⟩⟩; refine ⟨_, rfl, ?_⟩))
               go_ret2
               exact ⟨_, by rfl, by exact Kd.S_nil _ _ _ _ _, zB⟩
             ·rw [if_neg c24] at H
              exact absurd H (by simp)
            ·rw [if_neg c23] at H
             exact absurd H (by simp)
        ·rw [if_neg c10] at H
         have c10b0 : decide (x9_2 < (l1.length : Int)) = false := decide_eq_false c10
         clear c10
         by_cases c29 : x6_1.length < 5864062014805
         ·rw [if_pos c29] at H
          have LMc29 := zA c29
          clear c29
          obtain ⟨y279, hy279⟩ : ∃ y_ : List (List Int), y_ = (x6_1 ++ [x8_2]) := ⟨_, rfl⟩
          replace H : (spec_l08Times.l0 k2 l0 l1 y279 (wrap64 (x7_1 + 1))) = some (r1, r2) := by (rw [hy279]; with_reducible exact H)
          have Ny279 := zA hy279
          clear hy279
          have H' := zA H
          clear H
          obtain ⟨Ao31, co31, eo31⟩ := Kd.R_slice HO_8.out
          subst eo31
          go_wp2_with (first | ((with_reducible refine gate_builtin (b := .append) (xs := #[.tmp 62, .tmp 64]) rfl ?_); at_builtin; refine Kd.S_append (Kd.slice 2 (Kd.int .i64)) (w0 := w) w.heap.size rfl (.tmp 62) (.tmp 64) 27 45 (.slice none 0 0) 24 rfl Try.underlying27 info45 rfl (by decide) (by omega) u6 x6_1 x8_2 [.slice Ao31 x8_2.length co31] (fun _ => True) (fun k_ => some k_ = (.slice Ao31 x8_2.length co31 : Value).ownBlock) rfl rfl ?aP (fun k_ hk_ => ((Kd.R_mono (ok' := fun k_ => ((fun _ => True)) k_ ∧ some k_ ≠ (u6 : Value).ownBlock) (Kd.R_apart' (HO_8.out) (Kd.S_typed HO_6.out) (by decide)) (fun k_ hk => ⟨trivial, hk.2⟩))).1 k_ hk_.symm) ?aF ?aO ?aB ?aS ?aL ?_; (case aP => exact Kd.M_row (Kd.R_mono (Kd.R_tight rfl (Kd.R_mono (ok' := fun k_ => ((fun _ => True)) k_ ∧ some k_ ≠ (u6 : Value).ownBlock) (Kd.R_apart' (HO_8.out) (Kd.S_typed HO_6.out) (by decide)) (fun k_ hk => ⟨trivial, hk.2⟩))) (fun _ h_ => h_))); (case aB => exact zB); (case aF => exact (fun _ _ => trivial)); (case aO => exact (by exact Kd.S_mono HO_6.out (fun k_ hk => ⟨trivial, fun e_ => hk e_⟩))); (case aS => exact (below_size zB)); (case aL => have := LMc29.out; omega); intro v280 w30 ho hb hg hat; rw [← Ny279.out] at ho; have HO281 := zA (ho); replace HB := zA (hb); clear HO_6 HO_8; clear ho hb hg hat))
          go_roundg k2
          case measure => have := HK1.out; have := HK2.out; omega
          case rel => exact ⟨(y279), (wrap64 (x7_1 + 1)), (by rfl), H', ⟨by have := HK1.out; have := HK2.out; omega⟩, ⟨zS⟩, ⟨zB⟩⟩
         ·rw [if_neg c29] at H
          exact absurd H (by simp)
     ·rw [if_neg c7] at H
      exact absurd H (by simp)
    ·rw [if_neg c6] at H
     exact absurd H (by simp)
   ·rw [if_neg c5] at H
    have c5b0 : decide (x7_1 < (l0.length : Int)) = false := decide_eq_false c5
    clear c5
    simp only [Option.some.injEq, Prod.mk.injEq] at H
    obtain ⟨rfl, rfl⟩ := H
    go_wp2
    go_ret2
    exact ⟨_, by rfl, zS, zB⟩

end Go.Proofs.Ytkbneilobaehkaa.P
