/- What a call of each Go function named below comes to is what the plain function beside it says. -/
import Derived.Test.YtcklefgkbddlhaaPx0
import Derived.Test.YtcklefgkbddlhaaPx13
import Derived.Test.YtcklefgkbddlhaaPx14
namespace Go.Proofs.Ytcklefgkbddlhaa.P
open Go.RowKit Go.Proofs.YtcklefgkbddlhaaW.PrintWords Go.Proofs.YtcklefgkbddlhaaW.PrintLast Go.Proofs.YtcklefgkbddlhaaW.PrintMore
attribute [local go_sem] max2_int min2_int max_two min_two max_three min_three max_four min_four
set_option linter.unusedVariables false
set_option linter.unusedSimpArgs false
/-! ### impl_timesMatrix: function 156 -/
mutual
def impl_timesMatrix.l0 : Nat → List (List Int) → List (List Int) → List (List Int) → Int → Int → Option ((List (List Int)))
  | 0, _, _, _, _, _ => none
  | k + 1, x1, x5, x13, x14, x15 => if x15 < x14 then (if 0 ≤ x15 then (if x15 < (x13.length : Int) then (impl_timesMatrix.l1 k x1 x5 x15 x13 x14 x15 (rd_L6 x13 x15) ((rd_L6 x13 x15).length : Int) 0) else (none)) else (none)) else (some x5)
def impl_timesMatrix.l1 : Nat → List (List Int) → List (List Int) → Int → List (List Int) → Int → Int → List Int → Int → Int → Option ((List (List Int)))
  | 0, _, _, _, _, _, _, _, _, _ => none
  | k + 1, x1, x5, x6, x13, x14, x15, x20, x21, x22 => if x22 < x21 then (if 0 ≤ x22 then (if x22 < (x20.length : Int) then (if 0 ≤ x6 then (if x6 < (x5.length : Int) then (if x22 < (x1.length : Int) then ((impl_multiplied.f k (rd_L6 x1 x22) (rd x20 x22)).bind fun t364 => ((impl_added.f k (rd_L6 x5 x6) t364).bind fun t367 => (impl_timesMatrix.l1 k x1 (x5.set (x6 : Int).toNat t367) x6 x13 x14 x15 x20 x21 (wrap64 (x22 + 1))))) else (none)) else (none)) else (none)) else (none)) else (none)) else (impl_timesMatrix.l0 k x1 x5 x13 x14 (wrap64 (x15 + 1)))
end
def impl_timesMatrix.f (k : Nat) (l0 : List (List Int)) (l1 : List (List Int)) : Option ((List (List Int))) := (impl_square.f k (l0.length : Int)).bind fun t357 => (impl_timesMatrix.l0 k l1 t357 l0 (l0.length : Int) 0)
theorem impl_timesMatrix.mono_l : ∀ k, (∀ y0 y1 y2 y3 y4, LeO (impl_timesMatrix.l0 k y0 y1 y2 y3 y4) (impl_timesMatrix.l0 (k + 1) y0 y1 y2 y3 y4)) ∧ (∀ y0 y1 y2 y3 y4 y5 y6 y7 y8, LeO (impl_timesMatrix.l1 k y0 y1 y2 y3 y4 y5 y6 y7 y8) (impl_timesMatrix.l1 (k + 1) y0 y1 y2 y3 y4 y5 y6 y7 y8))
  | 0 => ⟨fun _ _ _ _ _ r h => by simp [impl_timesMatrix.l0] at h, fun _ _ _ _ _ _ _ _ _ r h => by simp [impl_timesMatrix.l1] at h⟩
  | k + 1 => by
    obtain ⟨ih0, ih1⟩ := impl_timesMatrix.mono_l k
    refine ⟨?_, ?_⟩
    · intro y0 y1 y2 y3 y4
      unfold impl_timesMatrix.l0
      repeat' first
      | (with_reducible exact ih0 _ _ _ _ _)
      | (with_reducible exact ih1 _ _ _ _ _ _ _ _ _)
      | (with_reducible exact impl_added.mono _ _ _)
      | (with_reducible exact impl_multiplied.mono _ _ _)
      | (with_reducible exact impl_square.mono _ _)
      | (with_reducible exact LeO.refl _)
      | (with_reducible exact LeO.none _)
      | (with_reducible refine LeO.ite ?_ ?_)
      | (with_reducible refine LeO.bind ?_ (fun _ => ?_))
    · intro y0 y1 y2 y3 y4 y5 y6 y7 y8
      unfold impl_timesMatrix.l1
      repeat' first
      | (with_reducible exact ih0 _ _ _ _ _)
      | (with_reducible exact ih1 _ _ _ _ _ _ _ _ _)
      | (with_reducible exact impl_added.mono _ _ _)
      | (with_reducible exact impl_multiplied.mono _ _ _)
      | (with_reducible exact impl_square.mono _ _)
      | (with_reducible exact LeO.refl _)
      | (with_reducible exact LeO.none _)
      | (with_reducible refine LeO.ite ?_ ?_)
      | (with_reducible refine LeO.bind ?_ (fun _ => ?_))
theorem impl_timesMatrix.mono : ∀ a0 a1 k, LeO (impl_timesMatrix.f k a0 a1) (impl_timesMatrix.f (k + 1) a0 a1) := by
  intro a0 a1 k
  obtain ⟨ih0, ih1⟩ := impl_timesMatrix.mono_l k
  unfold impl_timesMatrix.f
  repeat' first
      | (with_reducible exact ih0 _ _ _ _ _)
      | (with_reducible exact ih1 _ _ _ _ _ _ _ _ _)
      | (with_reducible exact impl_added.mono _ _ _)
      | (with_reducible exact impl_multiplied.mono _ _ _)
      | (with_reducible exact impl_square.mono _ _)
      | (with_reducible exact LeO.refl _)
      | (with_reducible exact LeO.none _)
      | (with_reducible refine LeO.ite ?_ ?_)
      | (with_reducible refine LeO.bind ?_ (fun _ => ?_))
def impl_timesMatrix.T8 : Bool × List (List Nat × List Nat) := (true, [([], []), ([], []), ([], []), ([], []), ([2, 3], [2, 3]), ([4], [4]), ([], []), ([], []), ([6, 7], [6, 7]), ([8], [8]), ([], []), ([9, 10], [9, 10]), ([5, 11, 11], [5, 11]), ([0, 1, 0, 1, 2, 3, 4, 5, 6, 7, 8, 9, 10, 11, 12], [0, 1]), ([13, 12, 12, 0, 1, 2, 3, 4, 5, 6, 7, 8, 9, 10, 11, 12], [12, 13])])
def impl_timesMatrix.B8 : List Nat := [0, 0, 0, 0, 12, 28, 0, 0, 192, 448, 0, 1984, 4092, 8191, 16383]
theorem impl_timesMatrix.tab8 : rtab .any (opsOf Try.f156 8) = impl_timesMatrix.T8 := by kernel_rfl
theorem impl_timesMatrix.bits8 : waitsOk impl_timesMatrix.T8.2 impl_timesMatrix.B8 = true := by kernel_rfl
set_option maxHeartbeats 8000000 in
set_option maxRecDepth 100000 in
theorem impl_timesMatrix.callsS (k : Nat) (A0 : Option Addr) (c0 : Nat) (l0 : List (List Int)) (A1 : Option Addr) (c1 : Nat) (l1 : List (List Int)) (r : List (List Int)) (w : World) (hr0 : Kd.C (Kd.slice 2 (Kd.int .i64)) w A0 l0.length l0) (hc0 : l0.length ≤ c0) (hr1 : Kd.C (Kd.slice 2 (Kd.int .i64)) w A1 l1.length l1) (hc1 : l1.length ≤ c1) (h : impl_timesMatrix.f k l0 l1 = some r) :
    Calls Try.prog 156 #[.slice A0 l0.length c0, .slice A1 l1.length c1] w fun e w' => ∃ v0_ : Value, e = .returned (v0_) ∧ Kd.S (Kd.slice 2 (Kd.int .i64)) 48 w' w.heap.size (fun k_ => (w.heap.size ≤ k_)) v0_ r ∧ Below w.heap.size w w' := by
  have HR0 := Aside0.mk hr0
  have HC0 := Aside0.mk hc0
  clear hr0 hc0
  have HR1 := Aside0.mk hr1
  have HC1 := Aside0.mk hc1
  clear hr1 hc1
  have HB := Aside0.mk (Below.refl w.heap.size w)
  have H : ((impl_square.f k (l0.length : Int)).bind fun t357 => (impl_timesMatrix.l0 k l1 t357 l0 (l0.length : Int) 0)) = some r := h
  clear h
  replace H := Option.bind_eq_some_iff.mp H
  obtain ⟨t357, A30, H⟩ := H
  replace H : (impl_timesMatrix.l0 k l1 t357 l0 (l0.length : Int) 0) = some r := H
  have A3 := Aside0.mk A30
  clear A30
  have H' := Aside0.mk H
  clear H
  go_enter Try.func156, Try.ntmps156
  go_wp2_with (first | ((with_reducible refine gate_callee (f := 116) rfl ?_); refine goesL_ (some 12) rfl rfl Try.func116 (by kernel_rfl) rfl #[.int .i64 (l0.length : Int)] rfl zM ?_; (with_reducible refine (impl_square.calls k (l0.length : Int) t357 _ A3.out).mono ?_); rintro e w4 ⟨v358, rfl, ho0, hb⟩; refine ⟨_, rfl, ?_⟩; have n0_ := Aside0.mk (Kd.S_lower (Kd.S_mono (ok' := fun k_ => (w.heap.size ≤ k_)) (Kd.S_bound ho0) (fun k_ hk_ => (Nat.le_trans (below_size zB) hk_.2.1))) (below_size zB)); have n1_ := Aside0.mk (below_step zB hb); clear HB; have HO359 := n0_; have HB := n1_; clear n0_ n1_; (try clear hb); (try clear hb2); (try clear hk); (try clear hi); (try clear ho0)))
  go_loopg [15] k (fun kq v15 w' => ∃ (x5_1 : List (List Int)) (x15_1 : Int), v15 = .int .i64 x15_1 ∧ Aside0 (impl_timesMatrix.l0 kq l1 x5_1 l0 (l0.length : Int) x15_1 = some r) ∧ Aside0 (kq ≤ k) ∧ Aside0 (Kd.S (Kd.slice 2 (Kd.int .i64)) 48 w' w.heap.size (fun k_ => (w.heap.size ≤ k_)) v358 x5_1) ∧ Aside0 (Below w.heap.size w w'))
  case atStart => exact ⟨(t357), (0), (by first | rfl | (simp; done) | (simp [*]; done)), H', ⟨Nat.le_refl _⟩, ⟨zS⟩, ⟨zB⟩⟩
  case round =>
    clear H'
    obtain ⟨x5_1, x15_1, rfl, HA, HK1, HO_5, HB⟩ := hrel
    cases gk with
    | zero => exact absurd HA.out (by simp [impl_timesMatrix.l0])
    | succ k1 =>
      have H := HA.out
      clear HA
      simp only [impl_timesMatrix.l0] at H
      by_cases c5 : x15_1 < (l0.length : Int)
      · rw [if_pos c5] at H
        have c5b0 : decide (x15_1 < (l0.length : Int)) = true := decide_eq_true c5
        clear c5
        by_cases c6 : 0 ≤ x15_1
        · rw [if_pos c6] at H
          have c6b0 : decide (0 ≤ x15_1) = true := decide_eq_true c6
          clear c6
          by_cases c7 : x15_1 < (l0.length : Int)
          · rw [if_pos c7] at H
            have c7b0 : decide (x15_1 < (l0.length : Int)) = true := decide_eq_true c7
            clear c7
            have H' := Aside0.mk H
            clear H
            have p360 : 0 ≤ (x15_1 : Int) := zD
            have q360 : x15_1 < (l0.length : Int) := zD
            obtain ⟨ad360, A360_0, c360_0, e360, hx360_0, hl360_0, hi360_0⟩ := at_L6 HR0.out x15_1 p360 q360
            cases e360
            replace hx360_0 := zH HB hx360_0
            have HR360_0 := Aside0.mk hi360_0
            have HC360_0 := Aside0.mk hl360_0
            clear hi360_0 hl360_0
            replace p360 := eq_true p360
            replace q360 := eq_true q360
            go_wp2
            go_loopg [22] k1 (fun kq v22 w' => ∃ (x5_2 : List (List Int)) (x22_2 : Int), v22 = .int .i64 x22_2 ∧ Aside0 (impl_timesMatrix.l1 kq l1 x5_2 x15_1 l0 (l0.length : Int) x15_1 (rd_L6 l0 x15_1) ((rd_L6 l0 x15_1).length : Int) x22_2 = some r) ∧ Aside0 (kq ≤ k1) ∧ Aside0 (Kd.S (Kd.slice 2 (Kd.int .i64)) 48 w' w.heap.size (fun k_ => (w.heap.size ≤ k_)) v358 x5_2) ∧ Aside0 (Below w.heap.size w w'))
            case atStart => exact ⟨(x5_1), (0), (by first | rfl | (simp; done) | (simp [*]; done)), H', ⟨Nat.le_refl _⟩, ⟨zS⟩, ⟨zB⟩⟩
            case round =>
             clear H'
             obtain ⟨x5_2, x22_2, rfl, HA, HK2, HO_5, HB⟩ := hrel
             cases gk with
             | zero => exact absurd HA.out (by simp [impl_timesMatrix.l1])
             | succ k2 =>
              have H := HA.out
              clear HA
              simp only [impl_timesMatrix.l1] at H
              by_cases c8 : x22_2 < ((rd_L6 l0 x15_1).length : Int)
              ·rw [if_pos c8] at H
               have c8b0 : decide (x22_2 < ((rd_L6 l0 x15_1).length : Int)) = true := decide_eq_true c8
               clear c8
               by_cases c9 : 0 ≤ x22_2
               ·rw [if_pos c9] at H
                have c9b0 : decide (0 ≤ x22_2) = true := decide_eq_true c9
                clear c9
                by_cases c10 : x22_2 < ((rd_L6 l0 x15_1).length : Int)
                ·rw [if_pos c10] at H
                 have c10b0 : decide (x22_2 < ((rd_L6 l0 x15_1).length : Int)) = true := decide_eq_true c10
                 clear c10
                 by_cases c11 : 0 ≤ x15_1
                 ·rw [if_pos c11] at H
                  have c11b0 : decide (0 ≤ x15_1) = true := decide_eq_true c11
                  clear c11
                  by_cases c12 : x15_1 < (x5_2.length : Int)
                  ·rw [if_pos c12] at H
                   have c12b0 : decide (x15_1 < (x5_2.length : Int)) = true := decide_eq_true c12
                   clear c12
                   by_cases c13 : x22_2 < (l1.length : Int)
                   ·rw [if_pos c13] at H
                    have c13b0 : decide (x22_2 < (l1.length : Int)) = true := decide_eq_true c13
                    clear c13
                    replace H := Option.bind_eq_some_iff.mp H
                    obtain ⟨t364, A140, H⟩ := H
                    replace H : ((impl_added.f k2 (rd_L6 x5_2 x15_1) t364).bind fun t367 => (impl_timesMatrix.l1 k2 l1 (x5_2.set (x15_1 : Int).toNat t367) x15_1 l0 (l0.length : Int) x15_1 (rd_L6 l0 x15_1) ((rd_L6 l0 x15_1).length : Int) (wrap64 (x22_2 + 1)))) = some r := H
                    have A14 := Aside0.mk A140
                    clear A140
                    replace H := Option.bind_eq_some_iff.mp H
                    obtain ⟨t367, A150, H⟩ := H
                    replace H : (impl_timesMatrix.l1 k2 l1 (x5_2.set (x15_1 : Int).toNat t367) x15_1 l0 (l0.length : Int) x15_1 (rd_L6 l0 x15_1) ((rd_L6 l0 x15_1).length : Int) (wrap64 (x22_2 + 1))) = some r := H
                    have A15 := Aside0.mk A150
                    clear A150
                    obtain ⟨y370, hy370⟩ : ∃ y_ : List (List Int), y_ = (x5_2.set (x15_1 : Int).toNat t367) := ⟨_, rfl⟩
                    replace H : (impl_timesMatrix.l1 k2 l1 y370 x15_1 l0 (l0.length : Int) x15_1 (rd_L6 l0 x15_1) ((rd_L6 l0 x15_1).length : Int) (wrap64 (x22_2 + 1))) = some r := by first | (rw [hy370]; with_reducible exact H) | (have H2_ := (Option.bind_some _ _).symm.trans H; rw [hy370]; with_reducible exact H2_) | (have H2_ := (Option.bind_some _ _).symm.trans H; with_reducible exact H2_) | with_reducible exact H | (rw [hy370]; exact H) | exact H
                    have Ny370 := Aside0.mk hy370
                    clear hy370
                    have H' := Aside0.mk H
                    clear H
                    have p361 : 0 ≤ (x22_2 : Int) := zD
                    have q361 : x22_2 < ((rd_L6 l0 x15_1).length : Int) := zD
                    obtain ⟨ad361, e361, hx361_0⟩ := Kd.at_int HR360_0.out x22_2 p361 q361
                    cases e361
                    replace hx361_0 := zH HB hx361_0
                    replace p361 := eq_true p361
                    replace q361 := eq_true q361
                    try go_wp2
                    have n0_ := Aside0.mk (Kd.S_drew HO_5.out)
                    have n1_ := Aside0.mk (below_drew1 HB.out)
                    clear HO_5
                    clear HB
                    have HO_5 := n0_
                    have HB := n1_
                    clear n0_ n1_
                    obtain ⟨Ao18, co18, eo18⟩ := Kd.S_slice HO_5.out
                    (first | subst eo18 | (injection eo18 with f1_ f2_ f3_; have f4_ := f1_.symm; have f5_ := f3_.symm; clear f1_ f2_ f3_; subst f4_; subst f5_))
                    have p362 : 0 ≤ (x15_1 : Int) := zD
                    have q362 : x15_1 < (x5_2.length : Int) := zD
                    obtain ⟨ad362, A362_0, c362_0, e362, hx362_0, hl362_0, hi362_0⟩ := at_L6 (Kd.S_reads' HO_5.out).2.2 x15_1 p362 q362
                    cases e362
                    obtain ⟨ce362, hce362, hMe362, hcc362⟩ := Kd.N_get (Kd.S_N HO_5.out) [] x15_1 p362 (by first | exact q362 | exact zD | (have e_ := (Kd.S_reads' HO_5.out).1; omega))
                    obtain ⟨ua362_0, uc362_0, rfl, ul362_0, ge362_0⟩ := Kd.FK_slice_open hMe362
                    have hv362_0 := hcc362 0 _ rfl
                    rw [Nat.add_zero, show ((Kd.slice 2 (Kd.int .i64))).sz = 1 from rfl, Nat.mul_one] at hv362_0
                    replace hv362_0 := Option.some.inj (hv362_0.symm.trans hx362_0)
                    injection hv362_0 with hva_ hvn_ hvc_
                    rw [hva_] at ge362_0
                    rw [hvc_] at ul362_0
                    have HL362_0 := Aside0.mk (show Kd.V (Kd.int .i64) 2 _ w.heap.size _ _ (rd_L6 x5_2 x15_1) from Kd.V_mk ul362_0 ge362_0)
                    clear hva_ hvn_ hvc_ ge362_0 ul362_0
                    clear hcc362 hce362
                    have HR362_0 := Aside0.mk hi362_0
                    have HC362_0 := Aside0.mk hl362_0
                    clear hi362_0 hl362_0
                    replace p362 := eq_true p362
                    replace q362 := eq_true q362
                    have p363 : 0 ≤ (x22_2 : Int) := zD
                    have q363 : x22_2 < (l1.length : Int) := zD
                    obtain ⟨ad363, A363_0, c363_0, e363, hx363_0, hl363_0, hi363_0⟩ := at_L6 HR1.out x22_2 p363 q363
                    have hw363_0 := hx363_0
                    cases e363
                    replace hx363_0 := zH HB hx363_0
                    have HR363_0 := Aside0.mk hi363_0
                    have HC363_0 := Aside0.mk hl363_0
                    clear hi363_0 hl363_0
                    replace p363 := eq_true p363
                    replace q363 := eq_true q363
                    refine start_ (n := 15) (S := fun w' => w'.cell? (ad362.add (x15_1).toNat) = some (.slice A362_0 (rd_L6 x5_2 x15_1).length c362_0) ∧ w'.cell? (ad363.add (x22_2).toNat) = some (.slice A363_0 (rd_L6 l1 x22_2).length c363_0)) (ds := [14]) #[false, false, false, false, false, false, false, false, false, false, false, false, false, false, false] (by kernel_rfl) rfl rfl ⟨hx362_0, (zH HB hw363_0 :)⟩ (fun hHeld => ?_); refine with_tabW impl_timesMatrix.tab8 impl_timesMatrix.bits8 (fun HT_ HW_ => ?_)
                    generalize wr.drew = w17 at HO_5 HB HL362_0 HR362_0 HR363_0 hx362_0 hx363_0 hHeld ⊢
                    refine zP 0 (N := some 27) (h := ?_)
                    refine zP 1 (N := some 28) (h := ?_)
                    refine zP 2 (N := some 29) (h := ?_)
                    refine zP 3 (N := some 30) (h := ?_)
                    refine zP 4 (N := some 31) (h := ?_)
                    refine zP 6 (N := some 33) (h := ?_)
                    refine zP 7 (N := some 34) (h := ?_)
                    refine zP 8 (N := some 35) (h := ?_)
                    refine zP 10 (N := some 37) (h := ?_)
                    refine zT 5 hHeld (N := some 32) (h := ?_)
                    refine zT 9 hHeld (N := some 36) (h := ?_)
                    refine one_ (i := 11) (N := some 38) #[true, true, true, true, true, true, true, true, true, true, true, true, false, false, false] rfl rfl (one_of HT_.out (by kernel_rfl)) (by decide) (fun K hK => ?_)
                    refine goes_ Try.func173 (by kernel_rfl) rfl #[.slice A363_0 (rd_L6 l1 x22_2).length c363_0, .int .i64 (rd (rd_L6 l0 x15_1) x22_2)] (by rfl) rfl rfl zM ?_
                    with_reducible refine (impl_multiplied.calls k2 _ _ (rd_L6 l1 x22_2) (rd (rd_L6 l0 x15_1) x22_2) t364 _ ?side1 ?side2 A14.out).mono ?_
                    (case side1 => repeat (first | exact (Kd.C_below HR363_0.out HB.out) | (with_reducible refine Kd.C_alloc ?_ _) | (with_reducible refine Kd.C_drewN ?_ _) | (with_reducible refine Kd.C_drew ?_)))
                    (case side2 => exact HC363_0.out)
                    rintro e w19 ⟨v365, rfl, ho0, hb⟩
                    have HS0_ := (hb.cell (World.block_lt_of_cell? _ _ (hHeld.1))).trans (hHeld.1)
                    refine ⟨_, rfl, ?_⟩
                    have n0_ := Aside0.mk (Kd.S_elder' zS (Kd.R_base ho0) hb)
                    have n1_ := Aside0.mk (Kd.V_elder' (by (with_reducible repeat (first | apply Kd.V_alloc | apply Kd.V_drewN | apply Kd.V_drew)); exact HL362_0.out) (Kd.R_base ho0) hb)
                    have n2_ := Aside0.mk (Kd.R_lower (Kd.R_newM (M := fun k_ => (w.heap.size ≤ k_)) ho0 (below_size zB) (fun k_ h_ => h_)) (below_size zB))
                    have n3_ := Aside0.mk (Kd.C_below (by repeat (first | (with_reducible exact HR362_0.out) | (with_reducible refine Kd.C_alloc ?_ _) | (with_reducible refine Kd.C_drewN ?_ _) | (with_reducible refine Kd.C_drew ?_) | exact HR362_0.out)) hb)
                    have n4_ := Aside0.mk (below_step zB hb)
                    clear HO_5
                    clear HL362_0
                    clear HR362_0
                    clear HB
                    have HO_5 := n0_
                    have HL362_0 := n1_
                    have HO366 := n2_
                    have HR362_0 := n3_
                    have HB := n4_
                    clear n0_ n1_ n2_ n3_ n4_
                    (try clear hb)
                    (try clear hb2)
                    (try clear hk)
                    (try clear hi)
                    (try clear ho0)
                    obtain ⟨Ao20, co20, eo20⟩ := Kd.R_slice HO366.out
                    (first | subst eo20 | (injection eo20 with f1_ f2_ f3_; have f4_ := f1_.symm; have f5_ := f3_.symm; clear f1_ f2_ f3_; subst f4_; subst f5_))
                    refine hK.out _ _ ⟨HS0_, (zH HB hw363_0 :)⟩ (fun hHeld => ?_)
                    clear hK K
                    refine norm_ (a' := ?_) ?_ ?_
                    rotate_left
                    ·show Act.put _ (some 38) _ = _
                     simp only [Act.put, List.setIfInBounds_toArray, List.set_cons_zero, List.set_cons_succ, i64_w, i32_w]
                     rfl
                    refine one_ (i := 12) (N := some 39) #[true, true, true, true, true, true, true, true, true, true, true, true, true, false, false] rfl rfl (one_of HT_.out (by kernel_rfl)) (by decide) (fun K hK => ?_)
                    refine goes_ Try.func172 (by kernel_rfl) rfl #[.slice A362_0 (rd_L6 x5_2 x15_1).length c362_0, .slice Ao20 t364.length co20] (by rfl) rfl rfl zM ?_
                    with_reducible refine (impl_added.calls k2 _ _ (rd_L6 x5_2 x15_1) _ _ t364 t367 _ ?side1 ?side2 ?side3 ?side4 A15.out).mono ?_
                    (case side1 => repeat (first | exact (by repeat (first | (with_reducible exact HR362_0.out) | (with_reducible refine Kd.C_alloc ?_ _) | (with_reducible refine Kd.C_drewN ?_ _) | (with_reducible refine Kd.C_drew ?_) | exact HR362_0.out)) | (with_reducible refine Kd.C_alloc ?_ _) | (with_reducible refine Kd.C_drewN ?_ _) | (with_reducible refine Kd.C_drew ?_)))
                    (case side2 => exact HC362_0.out)
                    (case side3 => repeat (first | exact (Kd.R_reads' HO366.out).2.2 | (with_reducible refine Kd.C_alloc ?_ _) | (with_reducible refine Kd.C_drewN ?_ _) | (with_reducible refine Kd.C_drew ?_)))
                    (case side4 => exact (Kd.R_reads' HO366.out).2.1)
                    rintro e w21 ⟨v368, rfl, ho0, hb⟩
                    have HS0_ := (hb.cell (World.block_lt_of_cell? _ _ (hHeld.1))).trans (hHeld.1)
                    refine ⟨_, rfl, ?_⟩
                    have n0_ := Aside0.mk (Kd.S_elder' zS (Kd.R_base ho0) hb)
                    have n1_ := Aside0.mk (Kd.V_elder' (by (with_reducible repeat (first | apply Kd.V_alloc | apply Kd.V_drewN | apply Kd.V_drew)); exact HL362_0.out) (Kd.R_base ho0) hb)
                    have n2_ := Aside0.mk (Kd.R_elder' zR (Kd.R_base ho0) hb)
                    have n3_ := Aside0.mk (Kd.R_lower (Kd.R_new' (Kd.R_newM (M := fun k_ => (w.heap.size ≤ k_)) ho0 (below_size zB) (fun k_ h_ => h_)) (Kd.R_lt zR)) (below_size zB))
                    have n4_ := Aside0.mk (Kd.C_below (by repeat (first | (with_reducible exact HR362_0.out) | (with_reducible refine Kd.C_alloc ?_ _) | (with_reducible refine Kd.C_drewN ?_ _) | (with_reducible refine Kd.C_drew ?_) | exact HR362_0.out)) hb)
                    have n5_ := Aside0.mk (below_step zB hb)
                    clear HO_5
                    clear HL362_0
                    clear HO366
                    clear HR362_0
                    clear HB
                    have HO_5 := n0_
                    have HL362_0 := n1_
                    have HO366 := n2_
                    have HO369 := n3_
                    have HR362_0 := n4_
                    have HB := n5_
                    clear n0_ n1_ n2_ n3_ n4_ n5_
                    (try clear hb)
                    (try clear hb2)
                    (try clear hk)
                    (try clear hi)
                    (try clear ho0)
                    have p16 : 0 ≤ (x15_1 : Int) := zD
                    have q16 : (x15_1 : Int) < ((x5_2.length : Int) : Int) := zD
                    obtain ⟨go16, co16, eo16, gb16, gl16, cl16, HG16⟩ := Kd.S_form HO_5.out (by omega)
                    (first | cases eo16 | (injection eo16 with ea_ en_ ec_; (first | subst ea_ | (injection ea_ with ea_; subst ea_)); subst ec_; clear en_))
                    have GB16 := Aside0.mk gb16
                    have GG16 := Aside0.mk HG16
                    clear gb16 gl16 HG16
                    (first | simp only [add_plain] at hx362_0 | skip)
                    obtain ⟨ce16, hcl16, hM16, hcc16, hfr16⟩ := Kd.N_elem (Kd.S_N HO_5.out) [] (x15_1 : Int) p16 q16
                    obtain ⟨ua16_0, uc16_0, rfl, ul16_0, ge16_0⟩ := Kd.FK_slice_open hM16
                    have hx16_0 := hcc16 0 _ rfl
                    have hf16_0 := hfr16 0
                    (try simp only [show ((Kd.slice 2 (Kd.int .i64))).sz = 1 from rfl, Nat.mul_one, Nat.add_zero] at hx16_0)
                    (try simp only [show ((Kd.slice 2 (Kd.int .i64))).sz = 1 from rfl, Nat.mul_one, Nat.add_zero] at hf16_0)
                    clear hcl16 hcc16 hfr16; (try clear hM16)
                    replace p16 := eq_true p16
                    replace q16 := eq_true q16
                    have HX22 := Aside0.mk (show Kd.S (Kd.slice 2 (Kd.int .i64)) 48 _ w.heap.size (fun k_ => (w.heap.size ≤ k_) ∧ ¬ (some k_ = (v368 : Value).ownBlock)) (.slice (some ⟨go16, 0, none⟩) x5_2.length co18) x5_2 from (Kd.S_mono (HO_5.out) (fun k_ hk => ⟨hk.1.1, hk.2⟩)))
                    have hne22 := ((Kd.S_R (HO_5.out)).1 go16 rfl).2
                    have hj0_ : (0 : Int) ≤ (x15_1 : Int) := zD
                    have hj1_ : (x15_1 : Int) < (x5_2.length : Int) := zD
                    obtain ⟨oki22, ce22, hcl22, hM22, hcc22, hfr22, hoki22, hH22⟩ := Kd.S_elem HX22.out [] (x15_1 : Int) hj0_ (by omega)
                    obtain ⟨u22, rfl, hu22⟩ := hM22
                    obtain ⟨ab_, cb_, eb_⟩ := Kd.R_slice HO369.out
                    have HP22 := (Kd.S_seg (okg := fun k_ => some k_ = (v368 : Value).ownBlock) (okp := fun k_ => some k_ = (v368 : Value).ownBlock) hH22 hj0_ (by omega) (seg := [v368]) (j := 0) (show 1 ≤ 1 from by decide) (x' := t367) ⟨_, rfl, Kd.R_tight rfl HO369.out⟩ (fun _ hk => .inr hk) (fun k_ hk => ⟨Kd.R_base HO369.out k_ hk.symm, fun e_ => hne22 (by rw [← e_]; exact hk)⟩)).1
                    clear hj0_ hj1_ hoki22 hH22 hu22 hne22
                    (try simp only [show ((Kd.slice 2 (Kd.int .i64))).sz = 1 from rfl, Nat.mul_one, Nat.add_zero] at HP22)
                    rw [← Ny370.out] at HP22
                    (try simp only [eb_] at HP22)
                    have HQ22 := Aside0.mk HP22
                    clear hcl22 hcc22 hfr22 HP22; (try clear hM22)
                    refine hK.out _ _ ⟨HS0_, (zH HB hw363_0 :)⟩ (fun hHeld => ?_)
                    clear hK K
                    refine norm_ (a' := ?_) ?_ ?_
                    rotate_left
                    ·show Act.put _ (some 39) _ = _
                     simp only [Act.put, List.setIfInBounds_toArray, List.set_cons_zero, List.set_cons_succ, i64_w, i32_w]
                     rfl
                    refine zP 13 (N := some 40) (h := ?_)
                    refine last_ (i := 14) (N := none) #[true, true, true, true, true, true, true, true, true, true, true, true, true, true, true] rfl rfl (one_of HT_.out (by kernel_rfl)) (by decide) (fun K hK => ?_)
                    refine skip_ (w1 := ?_) (by rfl) rfl ?_ ?_
                    rotate_left
                    ·go_simp
                     rfl
                    refine hK.out _ _ ?_
                    clear hK K
                    refine done_ (done_of HT_.out (by kernel_rfl)) ?_
                    try go_wp2
                    go_roundg k2
                    case measure => have := HK1.out; have := HK2.out; omega
                    case rel => exact ⟨(y370), (wrap64 (x22_2 + 1)), (by first | rfl | (simp; done) | (simp [*]; done)), H', ⟨by have := HK1.out; have := HK2.out; omega⟩, ⟨zS⟩, ⟨by repeat (first | (with_reducible first | exact HB.out | apply below_alloc | apply pw_below_drewN | apply below_drew1 | refine below_set ?_ GB16.out) | exact HB.out)⟩⟩
                   ·rw [if_neg c13] at H
                    exact absurd H (by simp)
                  ·rw [if_neg c12] at H
                   exact absurd H (by simp)
                 ·rw [if_neg c11] at H
                  exact absurd H (by simp)
                ·rw [if_neg c10] at H
                 exact absurd H (by simp)
               ·rw [if_neg c9] at H
                exact absurd H (by simp)
              ·rw [if_neg c8] at H
               have c8b0 : decide (x22_2 < ((rd_L6 l0 x15_1).length : Int)) = false := decide_eq_false c8
               clear c8
               have H' := Aside0.mk H
               clear H
               go_wp2
               go_roundg k2
               case measure => have := HK1.out; have := HK2.out; omega
               case rel => exact ⟨(x5_2), (wrap64 (x15_1 + 1)), (by first | rfl | (simp; done) | (simp [*]; done)), H', ⟨by have := HK1.out; have := HK2.out; omega⟩, ⟨zS⟩, ⟨zB⟩⟩
          · rw [if_neg c7] at H
            exact absurd H (by simp)
        · rw [if_neg c6] at H
          exact absurd H (by simp)
      · rw [if_neg c5] at H
        have c5b0 : decide (x15_1 < (l0.length : Int)) = false := decide_eq_false c5
        clear c5
        obtain rfl := Option.some.inj H
        go_wp2
        go_ret
        exact ⟨_, by first | rfl | (simp [errW_none, errW_some] <;> rfl) | (simp [*, errW_none, errW_some] <;> rfl), zS, zB⟩
set_option maxHeartbeats 1000000 in
theorem impl_timesMatrix.calls (k : Nat) (A0 : Option Addr) (c0 : Nat) (l0 : List (List Int)) (A1 : Option Addr) (c1 : Nat) (l1 : List (List Int)) (r : List (List Int)) (w : World) (hr0 : Kd.C (Kd.slice 2 (Kd.int .i64)) w A0 l0.length l0) (hc0 : l0.length ≤ c0) (hr1 : Kd.C (Kd.slice 2 (Kd.int .i64)) w A1 l1.length l1) (hc1 : l1.length ≤ c1) (h : impl_timesMatrix.f k l0 l1 = some r) :
    Calls Try.prog 156 #[.slice A0 l0.length c0, .slice A1 l1.length c1] w fun e w' => ∃ v0_ : Value, e = .returned (v0_) ∧ Kd.N (Kd.slice 2 (Kd.int .i64)) 48 w' w.heap.size (fun k_ => (w.heap.size ≤ k_)) v0_ r ∧ Below w.heap.size w w' := by
  refine (impl_timesMatrix.callsS k A0 c0 l0 A1 c1 l1 r w hr0 hc0 hr1 hc1 h).mono ?_
  rintro e w' ⟨v0_, he, hS, hB⟩
  exact ⟨v0_, he, Kd.S_N hS, hB⟩
end Go.Proofs.Ytcklefgkbddlhaa.P
