/- What a call of each Go function named below comes to is what the plain function beside it says. -/
import Derived.Test.YtcklefgkbddlhaaPx0
import Derived.Test.YtcklefgkbddlhaaPx3
namespace Go.Proofs.Ytcklefgkbddlhaa.P
open Go.RowKit Go.Proofs.YtcklefgkbddlhaaW.PrintWords Go.Proofs.YtcklefgkbddlhaaW.PrintLast Go.Proofs.YtcklefgkbddlhaaW.PrintMore
attribute [local go_sem] max2_int min2_int max_two min_two max_three min_three max_four min_four
set_option linter.unusedVariables false
set_option linter.unusedSimpArgs false
/-! ### spec_l08Times: function 152 -/
mutual
def spec_l08Times.l0 : Nat → List (List Int) → List (List Int) → List (List Int) → Int → Option ((List (List Int)) × Bool)
  | 0, _, _, _, _ => none
  | k + 1, x0, x1, x6, x7 => if x7 < (x0.length : Int) then (if 0 ≤ (x1.length : Int) then (if ((x1.length : Int) : Int).toNat ≤ 35184372088832 then (spec_l08Times.l1 k x0 x1 x6 x7 (List.replicate ((x1.length : Int) : Int).toNat 0) 0) else (none)) else (none)) else (some (x6, true))
def spec_l08Times.l1 : Nat → List (List Int) → List (List Int) → List (List Int) → Int → List Int → Int → Option ((List (List Int)) × Bool)
  | 0, _, _, _, _, _, _ => none
  | k + 1, x0, x1, x6, x7, x8, x9 => if x9 < (x1.length : Int) then (spec_l08Times.l2 k x0 x1 x6 x7 x8 x9 0) else (if x6.length < 5864062014805 then (spec_l08Times.l0 k x0 x1 (x6 ++ [x8]) (wrap64 (x7 + 1))) else (none))
def spec_l08Times.l2 : Nat → List (List Int) → List (List Int) → List (List Int) → Int → List Int → Int → Int → Option ((List (List Int)) × Bool)
  | 0, _, _, _, _, _, _, _ => none
  | k + 1, x0, x1, x6, x7, x8, x9, x10 => if x10 < (x1.length : Int) then (if 0 ≤ x9 then (if x9 < (x8.length : Int) then (if 0 ≤ x7 then (if x7 < (x0.length : Int) then (if 0 ≤ x10 then (if x10 < ((rd_L6 x0 x7).length : Int) then (if x9 < ((rd_L6 x1 x10).length : Int) then (spec_l08Times.l2 k x0 x1 x6 x7 (x8.set (x9 : Int).toNat (wrap64 ((rd x8 x9) + (wrap64 ((rd (rd_L6 x0 x7) x10) * (rd (rd_L6 x1 x10) x9)))))) x9 (wrap64 (x10 + 1))) else (none)) else (none)) else (none)) else (none)) else (none)) else (none)) else (none)) else (if 0 ≤ x9 then (if x9 < (x8.length : Int) then ((spec_l01In.f (rd x8 x9) (-1000000000) 1000000000).bind fun t186 => (if t186 = true then (spec_l08Times.l1 k x0 x1 x6 x7 x8 (wrap64 (x9 + 1))) else (some (([] : List (List Int)), false)))) else (none)) else (none))
end
def spec_l08Times.f (k : Nat) (l0 : List (List Int)) (l1 : List (List Int)) : Option ((List (List Int)) × Bool) := spec_l08Times.l0 k l0 l1 (([] : List (List Int))) 0
theorem spec_l08Times.mono_l : ∀ k, (∀ y0 y1 y2 y3, LeO (spec_l08Times.l0 k y0 y1 y2 y3) (spec_l08Times.l0 (k + 1) y0 y1 y2 y3)) ∧ (∀ y0 y1 y2 y3 y4 y5, LeO (spec_l08Times.l1 k y0 y1 y2 y3 y4 y5) (spec_l08Times.l1 (k + 1) y0 y1 y2 y3 y4 y5)) ∧ (∀ y0 y1 y2 y3 y4 y5 y6, LeO (spec_l08Times.l2 k y0 y1 y2 y3 y4 y5 y6) (spec_l08Times.l2 (k + 1) y0 y1 y2 y3 y4 y5 y6))
  | 0 => ⟨fun _ _ _ _ r h => by simp [spec_l08Times.l0] at h, fun _ _ _ _ _ _ r h => by simp [spec_l08Times.l1] at h, fun _ _ _ _ _ _ _ r h => by simp [spec_l08Times.l2] at h⟩
  | k + 1 => by
    obtain ⟨ih0, ih1, ih2⟩ := spec_l08Times.mono_l k
    refine ⟨?_, ?_, ?_⟩
    · intro y0 y1 y2 y3
      unfold spec_l08Times.l0
      repeat' first
      | (with_reducible exact ih0 _ _ _ _)
      | (with_reducible exact ih1 _ _ _ _ _ _)
      | (with_reducible exact ih2 _ _ _ _ _ _ _)
      | (with_reducible exact LeO.refl _)
      | (with_reducible exact LeO.none _)
      | (with_reducible refine LeO.ite ?_ ?_)
      | (with_reducible refine LeO.bind ?_ (fun _ => ?_))
    · intro y0 y1 y2 y3 y4 y5
      unfold spec_l08Times.l1
      repeat' first
      | (with_reducible exact ih0 _ _ _ _)
      | (with_reducible exact ih1 _ _ _ _ _ _)
      | (with_reducible exact ih2 _ _ _ _ _ _ _)
      | (with_reducible exact LeO.refl _)
      | (with_reducible exact LeO.none _)
      | (with_reducible refine LeO.ite ?_ ?_)
      | (with_reducible refine LeO.bind ?_ (fun _ => ?_))
    · intro y0 y1 y2 y3 y4 y5 y6
      unfold spec_l08Times.l2
      repeat' first
      | (with_reducible exact ih0 _ _ _ _)
      | (with_reducible exact ih1 _ _ _ _ _ _)
      | (with_reducible exact ih2 _ _ _ _ _ _ _)
      | (with_reducible exact LeO.refl _)
      | (with_reducible exact LeO.none _)
      | (with_reducible refine LeO.ite ?_ ?_)
      | (with_reducible refine LeO.bind ?_ (fun _ => ?_))
theorem spec_l08Times.mono : ∀ a0 a1 k, LeO (spec_l08Times.f k a0 a1) (spec_l08Times.f (k + 1) a0 a1) := by
  intro a0 a1 k
  obtain ⟨ih0, ih1, ih2⟩ := spec_l08Times.mono_l k
  unfold spec_l08Times.f
  repeat' first
      | (with_reducible exact ih0 _ _ _ _)
      | (with_reducible exact ih1 _ _ _ _ _ _)
      | (with_reducible exact ih2 _ _ _ _ _ _ _)
      | (with_reducible exact LeO.refl _)
      | (with_reducible exact LeO.none _)
      | (with_reducible refine LeO.ite ?_ ?_)
      | (with_reducible refine LeO.bind ?_ (fun _ => ?_))
def spec_l08Times.T12 : Bool × List (List Nat × List Nat) := (true, [([], []), ([], []), ([], []), ([], []), ([2, 3], [2, 3]), ([4], [4]), ([], []), ([], []), ([6, 7], [6, 7]), ([8], [8]), ([], []), ([9, 10], [9, 10]), ([11], [11]), ([], []), ([], []), ([13, 14], [13, 14]), ([15], [15]), ([], []), ([16, 17], [16, 17]), ([18], [18]), ([12, 19], [12, 19]), ([5, 20], [5, 20]), ([0, 1, 0, 1, 2, 3, 4, 5, 6, 7, 8, 9, 10, 11, 12, 13, 14, 15, 16, 17, 18, 19, 20, 21], [0, 1]), ([22, 21, 0, 1, 2, 3, 4, 5, 6, 7, 8, 9, 10, 11, 12, 13, 14, 15, 16, 17, 18, 19, 20, 21], [21, 22])])
def spec_l08Times.B12 : List Nat := [0, 0, 0, 0, 12, 28, 0, 0, 192, 448, 0, 1984, 4032, 0, 0, 24576, 57344, 0, 253952, 516096, 1048512, 2097148, 4194303, 8388607]
theorem spec_l08Times.tab12 : rtab .any (opsOf Try.f152 12) = spec_l08Times.T12 := by kernel_rfl
theorem spec_l08Times.bits12 : waitsOk spec_l08Times.T12.2 spec_l08Times.B12 = true := by kernel_rfl
set_option maxHeartbeats 8000000 in
set_option maxRecDepth 100000 in
theorem spec_l08Times.calls (k : Nat) (A0 : Option Addr) (c0 : Nat) (l0 : List (List Int)) (A1 : Option Addr) (c1 : Nat) (l1 : List (List Int)) (r1 : List (List Int)) (r2 : Bool) (w : World) (hr0 : Kd.C (Kd.slice 2 (Kd.int .i64)) w A0 l0.length l0) (hc0 : l0.length ≤ c0) (hr1 : Kd.C (Kd.slice 2 (Kd.int .i64)) w A1 l1.length l1) (hc1 : l1.length ≤ c1) (h : spec_l08Times.f k l0 l1 = some (r1, r2)) :
    Calls Try.prog 152 #[.slice A0 l0.length c0, .slice A1 l1.length c1] w fun e w' => ∃ v0_ : Value, e = .returned (.tuple #[v0_, .bool r2]) ∧ Kd.S (Kd.slice 2 (Kd.int .i64)) 48 w' w.heap.size (fun _ => True) v0_ r1 ∧ Below w.heap.size w w' := by
  have HR0 := Aside0.mk hr0
  have HC0 := Aside0.mk hc0
  clear hr0 hc0
  have HR1 := Aside0.mk hr1
  have HC1 := Aside0.mk hc1
  clear hr1 hc1
  have HB := Aside0.mk (Below.refl w.heap.size w)
  have H : (spec_l08Times.l0 k l0 l1 (([] : List (List Int))) 0) = some (r1, r2) := h
  clear h
  obtain ⟨y170, hy170⟩ : ∃ y_ : List (List Int), y_ = (([] : List (List Int))) := ⟨_, rfl⟩
  replace H : (spec_l08Times.l0 k l0 l1 y170 0) = some (r1, r2) := by first | (rw [hy170]; with_reducible exact H) | (have H2_ := (Option.bind_some _ _).symm.trans H; rw [hy170]; with_reducible exact H2_) | (have H2_ := (Option.bind_some _ _).symm.trans H; with_reducible exact H2_) | with_reducible exact H | (rw [hy170]; exact H) | exact H
  have Ny170 := Aside0.mk hy170
  clear hy170
  have H' := Aside0.mk H
  clear H
  go_enter Try.func152, Try.ntmps152
  go_wp2_with (first | ((with_reducible refine gate_dst (N := 11) rfl ?_); refine Kd.S_lit (Kd.slice 2 (Kd.int .i64)) _ 48 ?hg (N := 11) ?hd (xs := ([] : List (List Int))) (inner := []) (ok := fun _ => True) (okp := fun _ => True) ?hr ?hp (fun _ hk => hk) trivial (Below.refl _ _) (Nat.le_refl _) (by simp) ?_; (case hd => rfl); (case hg => rfl); (case hr => first | (go_simp; done) | (go_simp; rfl)); (case hp => exact (Reps.none _ _)); intro v171 w3 ho4 hb hg_ hnew_; clear hg_ hnew_; (first | rw [← Ny170.out] at ho4 | (simp only [Int.reduceToNat] at ho4; rw [← Ny170.out] at ho4)); have n0_ := Aside0.mk (Kd.S_lower ho4 (below_size zB)); have n1_ := Aside0.mk (below_step zB hb); clear HB; have HO172 := n0_; have HB := n1_; clear n0_ n1_; clear hb ho4))
  go_loopg [6, 7] k (fun kq v6 v7 w' => ∃ (x6_1 : List (List Int)) (x7_1 : Int), v7 = .int .i64 x7_1 ∧ Aside0 (spec_l08Times.l0 kq l0 l1 x6_1 x7_1 = some (r1, r2)) ∧ Aside0 (kq ≤ k) ∧ Aside0 (Kd.S (Kd.slice 2 (Kd.int .i64)) 48 w' w.heap.size (fun _ => True) v6 x6_1) ∧ Aside0 (Below w.heap.size w w'))
  case atStart => exact ⟨(y170), (0), (by first | rfl | (simp; done) | (simp [*]; done)), H', ⟨Nat.le_refl _⟩, ⟨zS⟩, ⟨zB⟩⟩
  case round =>
    clear H'
    obtain ⟨x6_1, x7_1, rfl, HA, HK1, HO_6, HB⟩ := hrel
    cases gk with
    | zero => exact absurd HA.out (by simp [spec_l08Times.l0])
    | succ k1 =>
      have H := HA.out
      clear HA
      simp only [spec_l08Times.l0] at H
      by_cases c5 : x7_1 < (l0.length : Int)
      · rw [if_pos c5] at H
        have c5b0 : decide (x7_1 < (l0.length : Int)) = true := decide_eq_true c5
        clear c5
        by_cases c6 : 0 ≤ (l1.length : Int)
        · rw [if_pos c6] at H
          have c6b0 := eq_true c6
          have c6b1 : decide (0 ≤ (l1.length : Int)) = true := decide_eq_true c6
          clear c6
          by_cases c7 : ((l1.length : Int) : Int).toNat ≤ 35184372088832
          · rw [if_pos c7] at H
            have c7b0 := eq_true c7
            have c7b1 : decide (((l1.length : Int) : Int).toNat ≤ 35184372088832) = true := decide_eq_true c7
            clear c7
            obtain ⟨y173, hy173⟩ : ∃ y_ : List Int, y_ = (List.replicate ((l1.length : Int) : Int).toNat 0) := ⟨_, rfl⟩
            replace H : (spec_l08Times.l1 k1 l0 l1 x6_1 x7_1 y173 0) = some (r1, r2) := by first | (rw [hy173]; with_reducible exact H) | (have H2_ := (Option.bind_some _ _).symm.trans H; rw [hy173]; with_reducible exact H2_) | (have H2_ := (Option.bind_some _ _).symm.trans H; with_reducible exact H2_) | with_reducible exact H | (rw [hy173]; exact H) | exact H
            have Ny173 := Aside0.mk hy173
            clear hy173
            have H' := Aside0.mk H
            clear H
            go_wp2_with (first | ((with_reducible refine gate_dst (N := 20) rfl ?_); refine Kd.R_make (Kd.int .i64) _ 2 rfl (N := 20) rfl 48 _ _ rfl (l1.length : Int) rfl rfl Try.underlying48 (.int .i64 0) 8 info2 rfl (by decide) (by omega) 0 (ok := fun _ => True) (okp := fun _ => True) rfl (fun _ hk => hk) trivial (zD) (Nat.le_trans (Nat.mul_le_mul_right _ (zD : (l1.length : Int).toNat ≤ 35184372088832)) (by omega)) (Below.refl _ _) (Nat.le_refl _) ?_; intro v174 w8 ho9 hb hg_ hnew_; clear hg_ hnew_; (first | rw [← Ny173.out] at ho9 | (simp only [Int.reduceToNat] at ho9; rw [← Ny173.out] at ho9)); have n0_ := Aside0.mk (Kd.S_elder' zS (Kd.R_base ho9) hb); have n1_ := Aside0.mk (Kd.R_lower ho9 (below_size zB)); have n2_ := Aside0.mk (below_step zB hb); clear HO_6; clear HB; have HO_6 := n0_; have HO175 := n1_; have HB := n2_; clear n0_ n1_ n2_; clear hb ho9))
            go_loopg [9] k1 (fun kq v9 w' => ∃ (x8_2 : List Int) (x9_2 : Int), v9 = .int .i64 x9_2 ∧ Aside0 (spec_l08Times.l1 kq l0 l1 x6_1 x7_1 x8_2 x9_2 = some (r1, r2)) ∧ Aside0 (kq ≤ k1) ∧ Aside0 (Kd.S (Kd.slice 2 (Kd.int .i64)) 48 w' w.heap.size (fun k_ => some k_ ≠ (v174 : Value).ownBlock) u6 x6_1) ∧ Aside0 (Kd.R (Kd.int .i64) 2 w' w.heap.size (fun _ => True) v174 x8_2) ∧ Aside0 (Below w.heap.size w w'))
            case atStart => exact ⟨(y173), (0), (by first | rfl | (simp; done) | (simp [*]; done)), H', ⟨Nat.le_refl _⟩, ⟨by (with_reducible repeat (first | apply Kd.S_alloc | apply Kd.S_drewN | apply Kd.S_drew)); exact Kd.S_mono HO_6.out (fun _ hk => hk.2)⟩, ⟨zR⟩, ⟨zB⟩⟩
            case round =>
             clear H'
             obtain ⟨x8_2, x9_2, rfl, HA, HK2, HO_6, HO_8, HB⟩ := hrel
             cases gk with
             | zero => exact absurd HA.out (by simp [spec_l08Times.l1])
             | succ k2 =>
              have H := HA.out
              clear HA
              simp only [spec_l08Times.l1] at H
              by_cases c10 : x9_2 < (l1.length : Int)
              ·rw [if_pos c10] at H
               have c10b0 : decide (x9_2 < (l1.length : Int)) = true := decide_eq_true c10
               clear c10
               have H' := Aside0.mk H
               clear H
               go_wp2
               go_loopg [10] k2 (fun kq v10 w' => ∃ (x8_3 : List Int) (x10_3 : Int), v10 = .int .i64 x10_3 ∧ Aside0 (spec_l08Times.l2 kq l0 l1 x6_1 x7_1 x8_3 x9_2 x10_3 = some (r1, r2)) ∧ Aside0 (kq ≤ k2) ∧ Aside0 (Kd.S (Kd.slice 2 (Kd.int .i64)) 48 w' w.heap.size (fun k_ => some k_ ≠ (v174 : Value).ownBlock) u6 x6_1) ∧ Aside0 (Kd.R (Kd.int .i64) 2 w' w.heap.size (fun _ => True) v174 x8_3) ∧ Aside0 (Below w.heap.size w w'))
               case atStart => exact ⟨(x8_2), (0), (by first | rfl | (simp; done) | (simp [*]; done)), H', ⟨Nat.le_refl _⟩, ⟨zS⟩, ⟨zR⟩, ⟨zB⟩⟩
               case round =>
                clear H'
                obtain ⟨x8_3, x10_3, rfl, HA, HK3, HO_6, HO_8, HB⟩ := hrel
                cases gk with
                | zero => exact absurd HA.out (by simp [spec_l08Times.l2])
                | succ k3 =>
                 have H := HA.out
                 clear HA
                 simp only [spec_l08Times.l2] at H
                 by_cases c11 : x10_3 < (l1.length : Int)
                 ·rw [if_pos c11] at H
                  have c11b0 : decide (x10_3 < (l1.length : Int)) = true := decide_eq_true c11
                  clear c11
                  by_cases c12 : 0 ≤ x9_2
                  ·rw [if_pos c12] at H
                   have c12b0 : decide (0 ≤ x9_2) = true := decide_eq_true c12
                   clear c12
                   by_cases c13 : x9_2 < (x8_3.length : Int)
                   ·rw [if_pos c13] at H
                    have c13b0 : decide (x9_2 < (x8_3.length : Int)) = true := decide_eq_true c13
                    clear c13
                    by_cases c14 : 0 ≤ x7_1
                    ·rw [if_pos c14] at H
                     have c14b0 : decide (0 ≤ x7_1) = true := decide_eq_true c14
                     clear c14
                     by_cases c15 : x7_1 < (l0.length : Int)
                     ·rw [if_pos c15] at H
                      have c15b0 : decide (x7_1 < (l0.length : Int)) = true := decide_eq_true c15
                      clear c15
                      by_cases c16 : 0 ≤ x10_3
                      ·rw [if_pos c16] at H
                       have c16b0 : decide (0 ≤ x10_3) = true := decide_eq_true c16
                       clear c16
                       by_cases c17 : x10_3 < ((rd_L6 l0 x7_1).length : Int)
                       ·rw [if_pos c17] at H
                        have c17b0 : decide (x10_3 < ((rd_L6 l0 x7_1).length : Int)) = true := decide_eq_true c17
                        clear c17
                        by_cases c18 : x9_2 < ((rd_L6 l1 x10_3).length : Int)
                        ·rw [if_pos c18] at H
                         have c18b0 : decide (x9_2 < ((rd_L6 l1 x10_3).length : Int)) = true := decide_eq_true c18
                         clear c18
                         obtain ⟨y184, hy184⟩ : ∃ y_ : List Int, y_ = (x8_3.set (x9_2 : Int).toNat (wrap64 ((rd x8_3 x9_2) + (wrap64 ((rd (rd_L6 l0 x7_1) x10_3) * (rd (rd_L6 l1 x10_3) x9_2)))))) := ⟨_, rfl⟩
                         replace H : (spec_l08Times.l2 k3 l0 l1 x6_1 x7_1 y184 x9_2 (wrap64 (x10_3 + 1))) = some (r1, r2) := by first | (rw [hy184]; with_reducible exact H) | (have H2_ := (Option.bind_some _ _).symm.trans H; rw [hy184]; with_reducible exact H2_) | (have H2_ := (Option.bind_some _ _).symm.trans H; with_reducible exact H2_) | with_reducible exact H | (rw [hy184]; exact H) | exact H
                         have Ny184 := Aside0.mk hy184
                         clear hy184
                         have H' := Aside0.mk H
                         clear H
                         try go_wp2
                         have n0_ := Aside0.mk (Kd.S_drew HO_6.out)
                         have n1_ := Aside0.mk (Kd.R_drew HO_8.out)
                         have n2_ := Aside0.mk (below_drew1 HB.out)
                         clear HO_6
                         clear HO_8
                         clear HB
                         have HO_6 := n0_
                         have HO_8 := n1_
                         have HB := n2_
                         clear n0_ n1_ n2_
                         obtain ⟨Ao21, co21, eo21⟩ := Kd.R_slice HO_8.out
                         (first | subst eo21 | (injection eo21 with f1_ f2_ f3_; have f4_ := f1_.symm; have f5_ := f3_.symm; clear f1_ f2_ f3_; subst f4_; subst f5_))
                         have p179 : 0 ≤ (x9_2 : Int) := zD
                         have q179 : x9_2 < (x8_3.length : Int) := zD
                         obtain ⟨ad179, e179, hx179_0⟩ := Kd.at_int (Kd.R_reads' HO_8.out).2.2 x9_2 p179 q179
                         cases e179
                         replace p179 := eq_true p179
                         replace q179 := eq_true q179
                         have p180 : 0 ≤ (x7_1 : Int) := zD
                         have q180 : x7_1 < (l0.length : Int) := zD
                         obtain ⟨ad180, A180_0, c180_0, e180, hx180_0, hl180_0, hi180_0⟩ := at_L6 HR0.out x7_1 p180 q180
                         have hw180_0 := hx180_0
                         cases e180
                         replace hx180_0 := zH HB hx180_0
                         have HR180_0 := Aside0.mk hi180_0
                         have HC180_0 := Aside0.mk hl180_0
                         clear hi180_0 hl180_0
                         replace p180 := eq_true p180
                         replace q180 := eq_true q180
                         have p181 : 0 ≤ (x10_3 : Int) := zD
                         have q181 : x10_3 < ((rd_L6 l0 x7_1).length : Int) := zD
                         obtain ⟨ad181, e181, hx181_0⟩ := Kd.at_int HR180_0.out x10_3 p181 q181
                         have hw181_0 := hx181_0
                         cases e181
                         replace hx181_0 := zH HB hx181_0
                         replace p181 := eq_true p181
                         replace q181 := eq_true q181
                         have p182 : 0 ≤ (x10_3 : Int) := zD
                         have q182 : x10_3 < (l1.length : Int) := zD
                         obtain ⟨ad182, A182_0, c182_0, e182, hx182_0, hl182_0, hi182_0⟩ := at_L6 HR1.out x10_3 p182 q182
                         have hw182_0 := hx182_0
                         cases e182
                         replace hx182_0 := zH HB hx182_0
                         have HR182_0 := Aside0.mk hi182_0
                         have HC182_0 := Aside0.mk hl182_0
                         clear hi182_0 hl182_0
                         replace p182 := eq_true p182
                         replace q182 := eq_true q182
                         have p183 : 0 ≤ (x9_2 : Int) := zD
                         have q183 : x9_2 < ((rd_L6 l1 x10_3).length : Int) := zD
                         obtain ⟨ad183, e183, hx183_0⟩ := Kd.at_int HR182_0.out x9_2 p183 q183
                         have hw183_0 := hx183_0
                         cases e183
                         replace hx183_0 := zH HB hx183_0
                         replace p183 := eq_true p183
                         replace q183 := eq_true q183
                         have p19 : 0 ≤ (x9_2 : Int) := zD
                         have q19 : (x9_2 : Int) < ((x8_3.length : Int) : Int) := zD
                         obtain ⟨go19, co19, eo19, gb19, gl19, cl19, HG19⟩ := Kd.R_form HO_8.out (by omega)
                         (first | cases eo19 | (injection eo19 with ea_ en_ ec_; (first | subst ea_ | (injection ea_ with ea_; subst ea_)); subst ec_; clear en_))
                         have GB19 := Aside0.mk gb19
                         have GG19 := Aside0.mk HG19
                         clear gb19 gl19 HG19
                         (first | simp only [add_plain] at hx179_0 | skip)
                         obtain ⟨hx19_0, hf19_0⟩ := Kd.R_celln 0 HO_8.out (x9_2 : Int) p19 q19
                         replace p19 := eq_true p19
                         replace q19 := eq_true q19
                         have HP22 := Kd.R_putn HO_8.out (x9_2 : Int) (wrap64 ((rd x8_3 x9_2) + (wrap64 ((rd (rd_L6 l0 x7_1) x10_3) * (rd (rd_L6 l1 x10_3) x9_2)))))
                         rw [← Ny184.out] at HP22
                         have HQ22 := Aside0.mk HP22
                         clear HP22
                         refine start_ (n := 24) (S := fun w' => w'.cell? ⟨go19, (x9_2).toNat, none⟩ = some (.int .i64 (rd x8_3 x9_2)) ∧ w'.cell? (ad180.add (x7_1).toNat) = some (.slice (some ad181) (rd_L6 l0 x7_1).length c180_0) ∧ w'.cell? (ad181.add (x10_3).toNat) = some (.int .i64 (rd (rd_L6 l0 x7_1) x10_3)) ∧ w'.cell? (ad182.add (x10_3).toNat) = some (.slice (some ad183) (rd_L6 l1 x10_3).length c182_0) ∧ w'.cell? (ad183.add (x9_2).toNat) = some (.int .i64 (rd (rd_L6 l1 x10_3) x9_2))) (ds := [23]) #[false, false, false, false, false, false, false, false, false, false, false, false, false, false, false, false, false, false, false, false, false, false, false, false] (by kernel_rfl) rfl rfl ⟨hx179_0, (zH HB hw180_0 :), (zH HB hw181_0 :), (zH HB hw182_0 :), (zH HB hw183_0 :)⟩ (fun hHeld => ?_); refine with_tabW spec_l08Times.tab12 spec_l08Times.bits12 (fun HT_ HW_ => ?_)
                         generalize wr.drew = w20 at HO_6 HO_8 HB GG19 HQ22 HR180_0 HR182_0 hf19_0 hx179_0 hx180_0 hx181_0 hx182_0 hx183_0 hx19_0 hHeld ⊢
                         refine zP 0 (N := some 33) (h := ?_)
                         refine zP 1 (N := some 34) (h := ?_)
                         refine zP 2 (N := some 35) (h := ?_)
                         refine zP 3 (N := some 36) (h := ?_)
                         refine zP 4 (N := some 37) (h := ?_)
                         refine zP 6 (N := some 39) (h := ?_)
                         refine zP 7 (N := some 40) (h := ?_)
                         refine zP 8 (N := some 41) (h := ?_)
                         refine zP 10 (N := some 43) (h := ?_)
                         refine zP 13 (N := some 46) (h := ?_)
                         refine zP 14 (N := some 47) (h := ?_)
                         refine zP 15 (N := some 48) (h := ?_)
                         refine zP 17 (N := some 50) (h := ?_)
                         refine zT 5 hHeld (N := some 38) (h := ?_)
                         refine zT 9 hHeld (N := some 42) (h := ?_)
                         refine zP 11 (N := some 44) (h := ?_)
                         refine zT 12 hHeld (N := some 45) (h := ?_)
                         refine zT 16 hHeld (N := some 49) (h := ?_)
                         refine zP 18 (N := some 51) (h := ?_)
                         refine zT 19 hHeld (N := some 52) (h := ?_)
                         refine zP 20 (N := some 53) (h := ?_)
                         refine zP 21 (N := some 54) (h := ?_)
                         refine zP 22 (N := some 55) (h := ?_)
                         refine last_ (i := 23) (N := none) #[true, true, true, true, true, true, true, true, true, true, true, true, true, true, true, true, true, true, true, true, true, true, true, true] rfl rfl (one_of HT_.out (by kernel_rfl)) (by decide) (fun K hK => ?_)
                         refine skip_ (w1 := ?_) (by rfl) rfl ?_ ?_
                         rotate_left
                         ·go_simp
                          rfl
                         refine hK.out _ _ ?_
                         clear hK K
                         refine done_ (done_of HT_.out (by kernel_rfl)) ?_
                         try go_wp2
                         go_roundg k3
                         case measure => have := HK1.out; have := HK2.out; have := HK3.out; omega
                         case rel => exact ⟨(y184), (wrap64 (x10_3 + 1)), (by first | rfl | (simp; done) | (simp [*]; done)), H', ⟨by have := HK1.out; have := HK2.out; have := HK3.out; omega⟩, ⟨by (with_reducible repeat (first | apply Kd.S_alloc | apply Kd.S_drewN | apply Kd.S_drew)); exact Kd.S_mono (Kd.S_far (p := ⟨go19, (x9_2 : Int).toNat, none⟩) (Kd.S_mono HO_6.out (fun k_ hk => (⟨hk, fun e_ => hk (by rw [e_]; rfl)⟩ : _ ∧ k_ ≠ go19))) (fun _ hk => hk.2) (.int .i64 (wrap64 ((rd x8_3 x9_2) + (wrap64 ((rd (rd_L6 l0 x7_1) x10_3) * (rd (rd_L6 l1 x10_3) x9_2))))))) (fun _ hk => hk.1)⟩, ⟨zR⟩, ⟨by repeat (first | (with_reducible first | exact HB.out | apply below_alloc | apply pw_below_drewN | apply below_drew1 | refine below_set ?_ GB19.out) | exact HB.out)⟩⟩
                        ·rw [if_neg c18] at H
                         exact absurd H (by simp)
                       ·rw [if_neg c17] at H
                        exact absurd H (by simp)
                      ·rw [if_neg c16] at H
                       exact absurd H (by simp)
                     ·rw [if_neg c15] at H
                      exact absurd H (by simp)
                    ·rw [if_neg c14] at H
                     exact absurd H (by simp)
                   ·rw [if_neg c13] at H
                    exact absurd H (by simp)
                  ·rw [if_neg c12] at H
                   exact absurd H (by simp)
                 ·rw [if_neg c11] at H
                  have c11b0 : decide (x10_3 < (l1.length : Int)) = false := decide_eq_false c11
                  clear c11
                  by_cases c23 : 0 ≤ x9_2
                  ·rw [if_pos c23] at H
                   have c23b0 : decide (0 ≤ x9_2) = true := decide_eq_true c23
                   clear c23
                   by_cases c24 : x9_2 < (x8_3.length : Int)
                   ·rw [if_pos c24] at H
                    have c24b0 : decide (x9_2 < (x8_3.length : Int)) = true := decide_eq_true c24
                    clear c24
                    replace H := Option.bind_eq_some_iff.mp H
                    obtain ⟨t186, A250, H⟩ := H
                    replace H : (if t186 = true then (spec_l08Times.l1 k3 l0 l1 x6_1 x7_1 x8_3 (wrap64 (x9_2 + 1))) else (some (([] : List (List Int)), false))) = some (r1, r2) := H
                    have A25 := Aside0.mk A250
                    clear A250
                    by_cases c26 : t186 = true
                    ·subst c26
                     have H1 : (spec_l08Times.l1 k3 l0 l1 x6_1 x7_1 x8_3 (wrap64 (x9_2 + 1))) = some (r1, r2) := by rw [if_pos rfl] at H; exact H
                     clear H
                     have H := H1
                     clear H1
                     have H' := Aside0.mk H
                     clear H
                     obtain ⟨Ao27, co27, eo27⟩ := Kd.R_slice HO_8.out
                     subst eo27
                     have p185 : 0 ≤ (x9_2 : Int) := zD
                     have q185 : x9_2 < (x8_3.length : Int) := zD
                     obtain ⟨ad185, e185, hx185_0⟩ := Kd.at_int (Kd.R_reads' HO_8.out).2.2 x9_2 p185 q185
                     cases e185
                     replace p185 := eq_true p185
                     replace q185 := eq_true q185
                     go_wp2_with (first | ((with_reducible refine gate_callee (f := 92) rfl ?_); refine goesL_ (some 60) rfl rfl Try.func92 (by kernel_rfl) rfl #[.int .i64 (rd x8_3 x9_2), .int .i64 (-1000000000), .int .i64 1000000000] rfl zM ?_; (with_reducible refine (spec_l01In.calls (rd x8_3 x9_2) (-1000000000) 1000000000 true _ A25.out).mono ?_); rintro e w' ⟨rfl, ⟨nd, rfl⟩⟩; refine ⟨_, rfl, ?_⟩))
                     go_roundg k3
                     case measure => have := HK1.out; have := HK2.out; have := HK3.out; omega
                     case rel => exact ⟨(x8_3), (wrap64 (x9_2 + 1)), (by first | rfl | (simp; done) | (simp [*]; done)), H', ⟨by have := HK1.out; have := HK2.out; have := HK3.out; omega⟩, ⟨zS⟩, ⟨zR⟩, ⟨zB⟩⟩
                    ·replace c26 := Bool.eq_false_iff.mpr c26
                     subst c26
                     have H1 : (some (([] : List (List Int)), false)) = some (r1, r2) := by rw [if_neg (show ¬ (false = true) by decide)] at H; exact H
                     clear H
                     have H := H1
                     clear H1
                     simp only [Option.some.injEq, Prod.mk.injEq] at H
                     obtain ⟨rfl, rfl⟩ := H
                     obtain ⟨Ao28, co28, eo28⟩ := Kd.R_slice HO_8.out
                     subst eo28
                     have p185 : 0 ≤ (x9_2 : Int) := zD
                     have q185 : x9_2 < (x8_3.length : Int) := zD
                     obtain ⟨ad185, e185, hx185_0⟩ := Kd.at_int (Kd.R_reads' HO_8.out).2.2 x9_2 p185 q185
                     cases e185
                     replace p185 := eq_true p185
                     replace q185 := eq_true q185
                     go_wp2_with (first | ((with_reducible refine gate_callee (f := 92) rfl ?_); refine goesL_ (some 60) rfl rfl Try.func92 (by kernel_rfl) rfl #[.int .i64 (rd x8_3 x9_2), .int .i64 (-1000000000), .int .i64 1000000000] rfl zM ?_; (with_reducible refine (spec_l01In.calls (rd x8_3 x9_2) (-1000000000) 1000000000 false _ A25.out).mono ?_); rintro e w' ⟨rfl, ⟨nd, rfl⟩⟩; refine ⟨_, rfl, ?_⟩))
                     go_ret2
                     exact ⟨_, by first | rfl | (simp [errW_none, errW_some] <;> rfl) | (simp [*, errW_none, errW_some] <;> rfl), by first | exact Kd.S_nil _ _ _ _ _ | exact Kd.N_nil _ _ _ _ _ | exact Kd.V_nil _ _ _ _ _ | exact Kd.Q_nil _ _ _ _ _ | exact Kd.R_nil _ _ _ _ _, zB⟩
                   ·rw [if_neg c24] at H
                    exact absurd H (by simp)
                  ·rw [if_neg c23] at H
                   exact absurd H (by simp)
              ·rw [if_neg c10] at H
               have c10b0 : decide (x9_2 < (l1.length : Int)) = false := decide_eq_false c10
               clear c10
               by_cases c29 : x6_1.length < 5864062014805
               ·rw [if_pos c29] at H
                have LMc29 := Aside0.mk c29
                clear c29
                obtain ⟨y176, hy176⟩ : ∃ y_ : List (List Int), y_ = (x6_1 ++ [x8_2]) := ⟨_, rfl⟩
                replace H : (spec_l08Times.l0 k2 l0 l1 y176 (wrap64 (x7_1 + 1))) = some (r1, r2) := by first | (rw [hy176]; with_reducible exact H) | (have H2_ := (Option.bind_some _ _).symm.trans H; rw [hy176]; with_reducible exact H2_) | (have H2_ := (Option.bind_some _ _).symm.trans H; with_reducible exact H2_) | with_reducible exact H | (rw [hy176]; exact H) | exact H
                have Ny176 := Aside0.mk hy176
                clear hy176
                have H' := Aside0.mk H
                clear H
                obtain ⟨Ao31, co31, eo31⟩ := Kd.R_slice HO_8.out
                subst eo31
                go_wp2_with (first | ((with_reducible refine gate_builtin (b := .append) (xs := #[.tmp 62, .tmp 64]) rfl ?_); at_builtin; refine Kd.S_append (Kd.slice 2 (Kd.int .i64)) (w0 := w) w.heap.size rfl (.tmp 62) (.tmp 64) 62 48 (.slice none 0 0) 24 rfl Try.underlying62 info48 rfl (by decide) (by omega) u6 x6_1 x8_2 [.slice Ao31 x8_2.length co31] (fun _ => True) (fun k_ => some k_ = (.slice Ao31 x8_2.length co31 : Value).ownBlock) rfl rfl ?aP (fun k_ hk_ => ((Kd.R_mono (ok' := fun k_ => ((fun _ => True)) k_ ∧ some k_ ≠ (u6 : Value).ownBlock) (Kd.R_apart' (HO_8.out) (Kd.S_typed HO_6.out) (by decide)) (fun k_ hk => ⟨trivial, hk.2⟩))).1 k_ hk_.symm) ?aF ?aO ?aB ?aS ?aL ?_; (case aP => exact Kd.M_row (Kd.R_mono (Kd.R_tight rfl (Kd.R_mono (ok' := fun k_ => ((fun _ => True)) k_ ∧ some k_ ≠ (u6 : Value).ownBlock) (Kd.R_apart' (HO_8.out) (Kd.S_typed HO_6.out) (by decide)) (fun k_ hk => ⟨trivial, hk.2⟩))) (fun _ h_ => h_))); (case aB => exact zB); (case aF => exact (fun _ _ => trivial)); (case aO => exact (by (with_reducible repeat (first | apply Kd.S_alloc | apply Kd.S_drewN | apply Kd.S_drew)); exact Kd.S_mono HO_6.out (fun k_ hk => ⟨trivial, fun e_ => hk e_⟩))); (case aS => exact (below_size zB)); (case aL => have := LMc29.out; omega); intro v177 w30 ho hb hg hat; rw [← Ny176.out] at ho; have n0_ := Aside0.mk (hb); have n1_ := Aside0.mk (ho); clear HB; clear HO_6; clear HO_8; have HB := n0_; have HO178 := n1_; clear n0_ n1_; clear ho hb hg hat))
                go_roundg k2
                case measure => have := HK1.out; have := HK2.out; omega
                case rel => exact ⟨(y176), (wrap64 (x7_1 + 1)), (by first | rfl | (simp; done) | (simp [*]; done)), H', ⟨by have := HK1.out; have := HK2.out; omega⟩, ⟨zS⟩, ⟨zB⟩⟩
               ·rw [if_neg c29] at H
                exact absurd H (by simp)
          · rw [if_neg c7] at H
            exact absurd H (by simp)
        · rw [if_neg c6] at H
          exact absurd H (by simp)
      · rw [if_neg c5] at H
        have c5b0 : decide (x7_1 < (l0.length : Int)) = false := decide_eq_false c5
        clear c5
        simp only [Option.some.injEq, Prod.mk.injEq] at H
        obtain ⟨rfl, rfl⟩ := H
        go_wp2
        go_ret2
        exact ⟨_, by first | rfl | (simp [errW_none, errW_some] <;> rfl) | (simp [*, errW_none, errW_some] <;> rfl), zS, zB⟩
end Go.Proofs.Ytcklefgkbddlhaa.P
