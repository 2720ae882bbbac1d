/- What a call of each Go function named below comes to is what the plain function beside it says. -/
import Derived.Test.YtcklefgkbddlhaaPx0
import Derived.Test.YtcklefgkbddlhaaPx13
import Derived.Test.YtcklefgkbddlhaaPx16
import Derived.Test.YtcklefgkbddlhaaPx17
import Derived.Test.YtcklefgkbddlhaaHandMtx
namespace Go.Proofs.Ytcklefgkbddlhaa.P
open Go.RowKit Go.Proofs.YtcklefgkbddlhaaW.PrintWords Go.Proofs.YtcklefgkbddlhaaW.PrintLast Go.Proofs.YtcklefgkbddlhaaW.PrintMore
attribute [local go_sem] max2_int min2_int max_two min_two max_three min_three max_four min_four
set_option linter.unusedVariables false
set_option linter.unusedSimpArgs false
/-! ### impl_valueAt: function 59, by hand -/
mutual
def impl_valueAt.l0 : Nat → List (List (List Int)) → List (List (S27)) → List (S89) → Int → Int → Option ((List (List (S27))) × Int)
  | 0, _, _, _, _, _ => none
  | k + 1, x1, x7, x27, x28, x29 => if x29 < x28 then (if 0 ≤ x29 then (if x29 < (x27.length : Int) then ((impl_product.f k x1 ((rd_T89 x27 x29).f0)).bind fun bt390 => (if bt390.2 = true then (impl_valueAt.l1 k x1 x7 x27 x28 x29 bt390.1 (bt390.1.length : Int) 0 ((rd_T89 x27 x29).f0) ((rd_T89 x27 x29).f1.f0) ((rd_T89 x27 x29).f1.f1)) else (some (([] : List (List (S27))), 3)))) else (none)) else (none)) else (some (x7, 0))
def impl_valueAt.l1 : Nat → List (List (List Int)) → List (List (S27)) → List (S89) → Int → Int → List (List Int) → Int → Int → ByteArray → Int → Int → Option ((List (List (S27))) × Int)
  | 0, _, _, _, _, _, _, _, _, _, _, _ => none
  | k + 1, x1, x7, x27, x28, x29, x42, x43, x44, x390000, x390001, x390002 => if x44 < x43 then (if 0 ≤ x44 then (if x44 < (x42.length : Int) then (impl_valueAt.l2 k x1 x7 x44 x27 x28 x29 x42 x43 x44 (rd_L6 x42 x44) ((rd_L6 x42 x44).length : Int) 0 x390000 x390001 x390002) else (none)) else (none)) else (impl_valueAt.l0 k x1 x7 x27 x28 (wrap64 (x29 + 1)))
def impl_valueAt.l2 : Nat → List (List (List Int)) → List (List (S27)) → Int → List (S89) → Int → Int → List (List Int) → Int → Int → List Int → Int → Int → ByteArray → Int → Int → Option ((List (List (S27))) × Int)
  | 0, _, _, _, _, _, _, _, _, _, _, _, _, _, _, _ => none
  | k + 1, x1, x7, x12, x27, x28, x29, x42, x43, x44, x49, x50, x51, x390000, x390001, x390002 => if x51 < x50 then (if 0 ≤ x51 then (if x51 < (x49.length : Int) then ((impl_Fraction_timesWhole.f k x390001 x390002 (rd x49 x51)).bind fun bt396 => (if bt396.2.2 = true then (if 0 ≤ x12 then (if x12 < (x7.length : Int) then (if x51 < ((rd_L8 x7 x12).length : Int) then ((impl_Fraction_plus.f k ((rd_T27 (rd_L8 x7 x12) x51).f0) ((rd_T27 (rd_L8 x7 x12) x51).f1) bt396.1 bt396.2.1).bind fun bt402 => (if bt402.2.2 = true then (impl_valueAt.l2 k x1 (x7.set (x12 : Int).toNat ((rd_L8 x7 x12).set (x51 : Int).toNat (⟨bt402.1, bt402.2.1⟩ : S27))) x12 x27 x28 x29 x42 x43 x44 x49 x50 (wrap64 (x51 + 1)) x390000 x390001 x390002) else (some (([] : List (List (S27))), 3)))) else (none)) else (none)) else (none)) else (some (([] : List (List (S27))), 3)))) else (none)) else (none)) else (impl_valueAt.l1 k x1 x7 x27 x28 x29 x42 x43 (wrap64 (x44 + 1)) x390000 x390001 x390002)
end
def impl_valueAt.f (k : Nat) (a0_0 : Int) (a0_1 : Int) (l0_2 : List (S89)) (l1 : List (List (List Int))) : Option ((List (List (S27))) × Int) := if 0 < (l1.length : Int) then ((impl_fractions.f k ((rd_L7 l1 0).length : Int)).bind fun t385 => (impl_valueAt.l0 k l1 t385 l0_2 (l0_2.length : Int) 0)) else (none)
theorem impl_valueAt.mono_l : ∀ k, (∀ y0 y1 y2 y3 y4, LeO (impl_valueAt.l0 k y0 y1 y2 y3 y4) (impl_valueAt.l0 (k + 1) y0 y1 y2 y3 y4)) ∧ (∀ y0 y1 y2 y3 y4 y5 y6 y7 y8 y9 y10, LeO (impl_valueAt.l1 k y0 y1 y2 y3 y4 y5 y6 y7 y8 y9 y10) (impl_valueAt.l1 (k + 1) y0 y1 y2 y3 y4 y5 y6 y7 y8 y9 y10)) ∧ (∀ y0 y1 y2 y3 y4 y5 y6 y7 y8 y9 y10 y11 y12 y13 y14, LeO (impl_valueAt.l2 k y0 y1 y2 y3 y4 y5 y6 y7 y8 y9 y10 y11 y12 y13 y14) (impl_valueAt.l2 (k + 1) y0 y1 y2 y3 y4 y5 y6 y7 y8 y9 y10 y11 y12 y13 y14))
  | 0 => ⟨fun _ _ _ _ _ r h => by simp [impl_valueAt.l0] at h, fun _ _ _ _ _ _ _ _ _ _ _ r h => by simp [impl_valueAt.l1] at h, fun _ _ _ _ _ _ _ _ _ _ _ _ _ _ _ r h => by simp [impl_valueAt.l2] at h⟩
  | k + 1 => by
    obtain ⟨ih0, ih1, ih2⟩ := impl_valueAt.mono_l k
    refine ⟨?_, ?_, ?_⟩
    · intro y0 y1 y2 y3 y4
      unfold impl_valueAt.l0
      repeat' first
      | (with_reducible exact ih0 _ _ _ _ _)
      | (with_reducible exact ih1 _ _ _ _ _ _ _ _ _ _ _)
      | (with_reducible exact ih2 _ _ _ _ _ _ _ _ _ _ _ _ _ _ _)
      | (with_reducible exact impl_Fraction_plus.mono _ _ _ _ _)
      | (with_reducible exact impl_Fraction_timesWhole.mono _ _ _ _)
      | (with_reducible exact impl_fractions.mono _ _)
      | (with_reducible exact impl_product.mono _ _ _)
      | (with_reducible exact LeO.refl _)
      | (with_reducible exact LeO.none _)
      | (with_reducible refine LeO.ite ?_ ?_)
      | (with_reducible refine LeO.bind ?_ (fun _ => ?_))
    · intro y0 y1 y2 y3 y4 y5 y6 y7 y8 y9 y10
      unfold impl_valueAt.l1
      repeat' first
      | (with_reducible exact ih0 _ _ _ _ _)
      | (with_reducible exact ih1 _ _ _ _ _ _ _ _ _ _ _)
      | (with_reducible exact ih2 _ _ _ _ _ _ _ _ _ _ _ _ _ _ _)
      | (with_reducible exact impl_Fraction_plus.mono _ _ _ _ _)
      | (with_reducible exact impl_Fraction_timesWhole.mono _ _ _ _)
      | (with_reducible exact impl_fractions.mono _ _)
      | (with_reducible exact impl_product.mono _ _ _)
      | (with_reducible exact LeO.refl _)
      | (with_reducible exact LeO.none _)
      | (with_reducible refine LeO.ite ?_ ?_)
      | (with_reducible refine LeO.bind ?_ (fun _ => ?_))
    · intro y0 y1 y2 y3 y4 y5 y6 y7 y8 y9 y10 y11 y12 y13 y14
      unfold impl_valueAt.l2
      repeat' first
      | (with_reducible exact ih0 _ _ _ _ _)
      | (with_reducible exact ih1 _ _ _ _ _ _ _ _ _ _ _)
      | (with_reducible exact ih2 _ _ _ _ _ _ _ _ _ _ _ _ _ _ _)
      | (with_reducible exact impl_Fraction_plus.mono _ _ _ _ _)
      | (with_reducible exact impl_Fraction_timesWhole.mono _ _ _ _)
      | (with_reducible exact impl_fractions.mono _ _)
      | (with_reducible exact impl_product.mono _ _ _)
      | (with_reducible exact LeO.refl _)
      | (with_reducible exact LeO.none _)
      | (with_reducible refine LeO.ite ?_ ?_)
      | (with_reducible refine LeO.bind ?_ (fun _ => ?_))
theorem impl_valueAt.mono : ∀ a0 a1 a2 a3 k, LeO (impl_valueAt.f k a0 a1 a2 a3) (impl_valueAt.f (k + 1) a0 a1 a2 a3) := by
  intro a0 a1 a2 a3 k
  obtain ⟨ih0, ih1, ih2⟩ := impl_valueAt.mono_l k
  unfold impl_valueAt.f
  repeat' first
      | (with_reducible exact ih0 _ _ _ _ _)
      | (with_reducible exact ih1 _ _ _ _ _ _ _ _ _ _ _)
      | (with_reducible exact ih2 _ _ _ _ _ _ _ _ _ _ _ _ _ _ _)
      | (with_reducible exact impl_Fraction_plus.mono _ _ _ _ _)
      | (with_reducible exact impl_Fraction_timesWhole.mono _ _ _ _)
      | (with_reducible exact impl_fractions.mono _ _)
      | (with_reducible exact impl_product.mono _ _ _)
      | (with_reducible exact LeO.refl _)
      | (with_reducible exact LeO.none _)
      | (with_reducible refine LeO.ite ?_ ?_)
      | (with_reducible refine LeO.bind ?_ (fun _ => ?_))
set_option maxHeartbeats 8000000 in
set_option maxRecDepth 100000 in
theorem impl_valueAt.calls (k : Nat) (a0_0 : Int) (a0_1 : Int) (A0_2 : Option Addr) (c0_2 : Nat) (l0_2 : List (S89)) (A1 : Option Addr) (c1 : Nat) (l1 : List (List (List Int))) (r1 : List (List (S27))) (r2 : Int) (w : World) (hr0_2 : Kd.C k89 w A0_2 l0_2.length l0_2) (hc0_2 : l0_2.length ≤ c0_2) (hr1 : Kd.C (Kd.slice 48 (Kd.slice 2 (Kd.int .i64))) w A1 l1.length l1) (hc1 : l1.length ≤ c1) (h : impl_valueAt.f k a0_0 a0_1 l0_2 l1 = some (r1, r2)) :
    Calls Try.prog 59 #[.agg #[.int .i64 a0_0, .int .i64 a0_1, .slice A0_2 l0_2.length c0_2], .slice A1 l1.length c1] w fun e w' => ∃ v0_ : Value, e = .returned (.tuple #[v0_, .int .i64 r2]) ∧ Kd.S (Kd.slice 27 k27) 77 w' w.heap.size (fun _ => True) v0_ r1 ∧ Below w.heap.size w w' := by
  have hu32 := Try.underlying32
  have hu89 := Try.underlying89
  have hu27 := Try.underlying27
  have HR0_2 := Aside0.mk hr0_2
  have HC0_2 := Aside0.mk hc0_2
  clear hr0_2 hc0_2
  have HR1 := Aside0.mk hr1
  have HC1 := Aside0.mk hc1
  clear hr1 hc1
  have HB := Aside0.mk (Below.refl w.heap.size w)
  have H : (if 0 < (l1.length : Int) then ((impl_fractions.f k ((rd_L7 l1 0).length : Int)).bind fun t385 => (impl_valueAt.l0 k l1 t385 l0_2 (l0_2.length : Int) 0)) else (none)) = some (r1, r2) := h
  clear h
  by_cases c3 : 0 < (l1.length : Int)
  · rw [if_pos c3] at H
    have c3b0 : decide (0 < (l1.length : Int)) = true := decide_eq_true c3
    have c3b1 : decide (0 < l1.length) = true := decide_eq_true (by omega)
    clear c3
    replace H := Option.bind_eq_some_iff.mp H
    obtain ⟨t385, A40, H⟩ := H
    replace H : (impl_valueAt.l0 k l1 t385 l0_2 (l0_2.length : Int) 0) = some (r1, r2) := H
    have A4 := Aside0.mk A40
    clear A40
    have H' := Aside0.mk H
    clear H
    go_enter Try.func59, Try.ntmps59
    go_wp2_with (first | ((with_reducible refine gate_dst (N := 2) rfl ?_); refine box_event ?hg (N := 2) ?hd (cs := #[.int .i64 a0_0, .int .i64 a0_1, .slice A0_2 l0_2.length c0_2]) (t := 32) ?hr ?_; (case hd => rfl); (case hg => rfl); (case hr => first | (go_simp; done) | (go_simp; rfl)); intro gb383 hg w5 hbox hb; have n0_ := Aside0.mk (below_step zB hb); have n1_ := Aside0.mk (hbox); have n2_ := Aside0.mk (zG : w.heap.size ≤ gb383); have n3_ := Aside0.mk (zG : w.heap.size ≤ gb383); clear HB; have HB := n0_; have BK383 := n1_; have GW383 := n2_; have GE383 := n3_; clear n0_ n1_ n2_ n3_; clear hb hbox hg; have p384 : 0 ≤ (0 : Int) := (by omega); have q384 : 0 < (l1.length : Int) := zD; obtain ⟨ad384, A384_0, c384_0, e384, hx384_0, hl384_0, hi384_0⟩ := at_L7 HR1.out 0 p384 q384; cases e384; have qi384 : (0 < l1.length) = True := eq_true (by omega); (try rw [show ((0 : Int)).toNat = 0 from rfl] at hx384_0); (try rw [Addr.add_zero'] at hx384_0); replace hx384_0 := zH HB hx384_0; have HR384_0 := Aside0.mk hi384_0; have HC384_0 := Aside0.mk hl384_0; clear hi384_0 hl384_0; replace p384 := eq_true p384; replace q384 := eq_true q384) | ((with_reducible refine gate_callee (f := 112) rfl ?_); refine goesL_ (some 25) rfl rfl Try.func112 (by kernel_rfl) rfl #[.int .i64 ((rd_L7 l1 0).length : Int)] rfl zM ?_; (with_reducible refine (impl_fractions.calls k ((rd_L7 l1 0).length : Int) t385 _ A4.out).mono ?_); rintro e w6 ⟨v386, rfl, ho0, hb⟩; refine ⟨_, rfl, ?_⟩; have n0_ := Aside0.mk (Kd.S_lower ho0 (below_size zB)); have n1_ := Aside0.mk (blk_below (g := gb383) (o := .cells #[.int .i64 a0_0, .int .i64 a0_1, .slice A0_2 l0_2.length c0_2] 32 (0, 0)) zK hb); have n2_ := Aside0.mk (below_step zB hb); clear BK383; clear HB; have HO387 := n0_; have BK383 := n1_; have HB := n2_; clear n0_ n1_ n2_; (try clear hb); (try clear hb2); (try clear hk); (try clear hi); (try clear ho0); have hcz7_0 : w6.cell? ⟨gb383, 0, none⟩ = some (.int .i64 a0_0) := zE BK383; have hcz7_1 : w6.cell? ⟨gb383, 1, none⟩ = some (.int .i64 a0_1) := zE BK383; have hcz7_2 : w6.cell? ⟨gb383, 2, none⟩ = some (.slice A0_2 l0_2.length c0_2) := zE BK383; have hfz7_0 := blk_frozen BK383.out 0; have hfz7_1 := blk_frozen BK383.out 1; have hfz7_2 := blk_frozen BK383.out 2))
    go_loopg [29] k (fun kq v29 w' => ∃ (x7_1 : List (List (S27))) (x29_1 : Int), v29 = .int .i64 x29_1 ∧ Aside0 (impl_valueAt.l0 kq l1 x7_1 l0_2 (l0_2.length : Int) x29_1 = some (r1, r2)) ∧ Aside0 (kq ≤ k) ∧ Aside0 (Kd.S (Kd.slice 27 k27) 77 w' w.heap.size (fun _ => True) v386 x7_1) ∧ Aside0 (w'.heap[gb383]? = some (.cells #[.int .i64 a0_0, .int .i64 a0_1, (.slice A0_2 l0_2.length c0_2)] 32 (0, 0))) ∧ Aside0 (Below w.heap.size w w'))
    case atStart => exact ⟨(t385), (0), (by first | rfl | (simp; done) | (simp [*]; done)), H', ⟨Nat.le_refl _⟩, ⟨zS⟩, ⟨zK⟩, ⟨zB⟩⟩
    case round =>
      clear H'
      obtain ⟨x7_1, x29_1, rfl, HA, HK1, HO_7, BK383, HB⟩ := hrel
      cases gk with
      | zero => exact absurd HA.out (by simp [impl_valueAt.l0])
      | succ k1 =>
        have H := HA.out
        clear HA
        simp only [impl_valueAt.l0] at H
        by_cases c8 : x29_1 < (l0_2.length : Int)
        · rw [if_pos c8] at H
          have c8b0 : decide (x29_1 < (l0_2.length : Int)) = true := decide_eq_true c8
          clear c8
          by_cases c9 : 0 ≤ x29_1
          · rw [if_pos c9] at H
            have c9b0 : decide (0 ≤ x29_1) = true := decide_eq_true c9
            clear c9
            by_cases c10 : x29_1 < (l0_2.length : Int)
            ·rw [if_pos c10] at H
             have c10b0 : decide (x29_1 < (l0_2.length : Int)) = true := decide_eq_true c10
             clear c10
             replace H := Option.bind_eq_some_iff.mp H
             obtain ⟨⟨t390, t391⟩, A110, H⟩ := H
             replace H : (if t391 = true then (impl_valueAt.l1 k1 l1 x7_1 l0_2 (l0_2.length : Int) x29_1 t390 (t390.length : Int) 0 ((rd_T89 l0_2 x29_1).f0) ((rd_T89 l0_2 x29_1).f1.f0) ((rd_T89 l0_2 x29_1).f1.f1)) else (some (([] : List (List (S27))), 3))) = some (r1, r2) := H
             have A11 := Aside0.mk A110
             clear A110
             by_cases c12 : t391 = true
             ·subst c12
              have H1 : (impl_valueAt.l1 k1 l1 x7_1 l0_2 (l0_2.length : Int) x29_1 t390 (t390.length : Int) 0 ((rd_T89 l0_2 x29_1).f0) ((rd_T89 l0_2 x29_1).f1.f0) ((rd_T89 l0_2 x29_1).f1.f1)) = some (r1, r2) := by rw [if_pos rfl] at H; exact H
              clear H
              have H := H1
              clear H1
              have H' := Aside0.mk H
              clear H
              have p388 : 0 ≤ (x29_1 : Int) := zD
              have q388 : x29_1 < (l0_2.length : Int) := zD
              obtain ⟨ad388, e388, hx388_0, hx388_1, hx388_2⟩ := at_T89 HR0_2.out x29_1 p388 q388
              cases e388
              replace hx388_0 := zH HB hx388_0
              replace hx388_1 := zH HB hx388_1
              replace hx388_2 := zH HB hx388_2
              replace p388 := eq_true p388
              replace q388 := eq_true q388
              go_wp2_with (first | ((with_reducible refine gate_dst (N := 9) rfl ?_); refine box_event ?hg (N := 9) ?hd (cs := #[.string (⟨#[]⟩ : ByteArray), .int .i64 0, .int .i64 0]) (t := 89) ?hr ?_; (case hd => rfl); (case hg => rfl); (case hr => first | (go_simp; done) | (go_simp; rfl)); intro gb389 hg w13 hbox hb; have n0_ := Aside0.mk (Kd.S_below zS hb); have n1_ := Aside0.mk (blk_below (g := gb383) (o := .cells #[.int .i64 a0_0, .int .i64 a0_1, .slice (some ad388) l0_2.length c0_2] 32 (0, 0)) zK hb); have n2_ := Aside0.mk (below_step zB hb); have n3_ := Aside0.mk (hbox); have n4_ := Aside0.mk (zG : w.heap.size ≤ gb389); have n5_ := Aside0.mk (zG : w.heap.size ≤ gb389); have n6_ := Aside0.mk ((by rw [hg]; exact Nat.ne_of_lt (blk_lt (g := gb383) (o := .cells #[.int .i64 a0_0, .int .i64 a0_1, .slice (some ad388) l0_2.length c0_2] 32 (0, 0)) zK) : gb383 ≠ gb389)); have n7_ := Aside0.mk ((by rw [hg]; exact Nat.ne_of_gt (blk_lt (g := gb383) (o := .cells #[.int .i64 a0_0, .int .i64 a0_1, .slice (some ad388) l0_2.length c0_2] 32 (0, 0)) zK) : gb389 ≠ gb383)); clear HO_7; clear BK383; clear HB; have HO_7 := n0_; have BK383 := n1_; have HB := n2_; have BK389 := n3_; have GW389 := n4_; have GE389 := n5_; have NB383_389 := n6_; have NB389_383 := n7_; clear n0_ n1_ n2_ n3_ n4_ n5_ n6_ n7_; clear hb hbox hg; have hnb14 := NB389_383.out; have hnc14 := NB383_389.out; have hcz15_0 : w13.cell? ⟨gb389, 0, none⟩ = some (.string (⟨#[]⟩ : ByteArray)) := zE BK389; have hcz15_1 : w13.cell? ⟨gb389, 1, none⟩ = some (.int .i64 0) := zE BK389; have hcz15_2 : w13.cell? ⟨gb389, 2, none⟩ = some (.int .i64 0) := zE BK389; have hfz15_0 := blk_frozen BK389.out 0; have hfz15_1 := blk_frozen BK389.out 1; have hfz15_2 := blk_frozen BK389.out 2) | ((with_reducible refine gate_callee (f := 113) rfl ?_); refine goesL_ (some 37) rfl rfl Try.func113 (by kernel_rfl) rfl #[.slice (some ad384) l1.length c1, .string ((rd_T89 l0_2 x29_1).f0)] rfl zM ?_; (with_reducible refine (impl_product.calls k1 _ _ l1 ((rd_T89 l0_2 x29_1).f0) t390 true _ ?side1 ?side2 A11.out).mono ?_); (case side1 => exact Kd.C_below HR1.out zB); (case side2 => exact HC1.out); rintro e w16 ⟨v392, rfl, ho0, hb⟩; refine ⟨_, rfl, ?_⟩; have n0_ := Aside0.mk (Kd.S_below (by (with_reducible repeat (first | apply Kd.S_alloc | apply Kd.S_drewN | apply Kd.S_drew)); exact (Kd.S_mono (Kd.S_far (p := ⟨gb389, 2, none⟩) (Kd.S_far (p := ⟨gb389, 1, none⟩) (Kd.S_far (p := ⟨gb389, 0, none⟩) (Kd.S_types HO_7.out BK389.out (by decide)) (fun _ hk => hk.2) (.string ((rd_T89 l0_2 x29_1).f0))) (fun _ hk => hk.2) (.int .i64 ((rd_T89 l0_2 x29_1).f1.f0))) (fun _ hk => hk.2) (.int .i64 ((rd_T89 l0_2 x29_1).f1.f1))) (fun _ h_ => h_.1))) hb); have n1_ := Aside0.mk (Kd.S_lower ho0 (below_size zB)); have n2_ := Aside0.mk (blk_below (g := gb383) (o := .cells #[.int .i64 a0_0, .int .i64 a0_1, .slice (some ad388) l0_2.length c0_2] 32 (0, 0)) (by (with_reducible repeat (first | refine blk_drewN ?_ _ | refine blk_drew ?_ | refine blk_alloc ?_ _)); refine blk_far ?_ NB383_389.out _; (with_reducible repeat (first | refine blk_drewN ?_ _ | refine blk_drew ?_ | refine blk_alloc ?_ _)); refine blk_far ?_ NB383_389.out _; (with_reducible repeat (first | refine blk_drewN ?_ _ | refine blk_drew ?_ | refine blk_alloc ?_ _)); refine blk_far ?_ NB383_389.out _; exact zK) hb); have n3_ := Aside0.mk (blk_below (g := gb389) (o := .cells #[.string ((rd_T89 l0_2 x29_1).f0), .int .i64 ((rd_T89 l0_2 x29_1).f1.f0), .int .i64 ((rd_T89 l0_2 x29_1).f1.f1)] 89 (0, 0)) (by (with_reducible repeat (first | refine blk_drewN ?_ _ | refine blk_drew ?_ | refine blk_alloc ?_ _)); refine blk_put (cs := #[.string ((rd_T89 l0_2 x29_1).f0), .int .i64 ((rd_T89 l0_2 x29_1).f1.f0), .int .i64 0]) ?_ 2 _ rfl; (with_reducible repeat (first | refine blk_drewN ?_ _ | refine blk_drew ?_ | refine blk_alloc ?_ _)); refine blk_put (cs := #[.string ((rd_T89 l0_2 x29_1).f0), .int .i64 0, .int .i64 0]) ?_ 1 _ rfl; (with_reducible repeat (first | refine blk_drewN ?_ _ | refine blk_drew ?_ | refine blk_alloc ?_ _)); refine blk_put (cs := #[.string (⟨#[]⟩ : ByteArray), .int .i64 0, .int .i64 0]) ?_ 0 _ rfl; exact zK) hb); have n4_ := Aside0.mk (below_step zB hb); clear HO_7; clear BK383; clear BK389; clear HB; have HO_7 := n0_; have HO393 := n1_; have BK383 := n2_; have BK389 := n3_; have HB := n4_; clear n0_ n1_ n2_ n3_ n4_; (try clear hb); (try clear hb2); (try clear hk); (try clear hi); (try clear ho0); obtain ⟨Ao17, co17, eo17⟩ := Kd.S_slice HO393.out; subst eo17))
              go_loopg [44] k1 (fun kq v44 w' => ∃ (x7_2 : List (List (S27))) (x44_2 : Int), v44 = .int .i64 x44_2 ∧ Aside0 (impl_valueAt.l1 kq l1 x7_2 l0_2 (l0_2.length : Int) x29_1 t390 (t390.length : Int) x44_2 ((rd_T89 l0_2 x29_1).f0) ((rd_T89 l0_2 x29_1).f1.f0) ((rd_T89 l0_2 x29_1).f1.f1) = some (r1, r2)) ∧ Aside0 (kq ≤ k1) ∧ Aside0 (Kd.S (Kd.slice 27 k27) 77 w' w.heap.size (fun _ => True) v386 x7_2) ∧ Aside0 (Kd.S (Kd.slice 2 (Kd.int .i64)) 48 w' w.heap.size (fun _ => True) (.slice Ao17 t390.length co17) t390) ∧ Aside0 (w'.heap[gb383]? = some (.cells #[.int .i64 a0_0, .int .i64 a0_1, (.slice (some ad388) l0_2.length c0_2)] 32 (0, 0))) ∧ Aside0 (w'.heap[gb389]? = some (.cells #[.string ((rd_T89 l0_2 x29_1).f0), .int .i64 ((rd_T89 l0_2 x29_1).f1.f0), .int .i64 ((rd_T89 l0_2 x29_1).f1.f1)] 89 (0, 0))) ∧ Aside0 (Below w.heap.size w w'))
              case atStart => exact ⟨(x7_1), (0), (by first | rfl | (simp; done) | (simp [*]; done)), H', ⟨Nat.le_refl _⟩, ⟨zS⟩, ⟨zS⟩, ⟨zK⟩, ⟨zK⟩, ⟨zB⟩⟩
              case round =>
               clear H'
               obtain ⟨x7_2, x44_2, rfl, HA, HK2, HO_7, HO_42, BK383, BK389, HB⟩ := hrel
               cases gk with
               | zero => exact absurd HA.out (by simp [impl_valueAt.l1])
               | succ k2 =>
                have H := HA.out
                clear HA
                simp only [impl_valueAt.l1] at H
                by_cases c18 : x44_2 < (t390.length : Int)
                ·rw [if_pos c18] at H
                 have c18b0 : decide (x44_2 < (t390.length : Int)) = true := decide_eq_true c18
                 clear c18
                 by_cases c19 : 0 ≤ x44_2
                 ·rw [if_pos c19] at H
                  have c19b0 : decide (0 ≤ x44_2) = true := decide_eq_true c19
                  clear c19
                  by_cases c20 : x44_2 < (t390.length : Int)
                  ·rw [if_pos c20] at H
                   have c20b0 : decide (x44_2 < (t390.length : Int)) = true := decide_eq_true c20
                   clear c20
                   have H' := Aside0.mk H
                   clear H
                   have p394 : 0 ≤ (x44_2 : Int) := zD
                   have q394 : x44_2 < (t390.length : Int) := zD
                   obtain ⟨ad394, A394_0, c394_0, e394, hx394_0, hl394_0, hi394_0⟩ := at_L6 (Kd.S_reads' HO_42.out).2.2 x44_2 p394 q394
                   cases e394
                   have HX394_0 := Aside0.mk hx394_0
                   have HR394_0 := Aside0.mk hi394_0
                   replace p394 := eq_true p394
                   replace q394 := eq_true q394
                   obtain ⟨gp, cp_, ep_, _, _, _⟩ := Kd.S_form HO_42.out (by have := of_eq_true p394; have := of_eq_true q394; omega)
                   injection ep_ with ea_ _ ec_
                   injection ea_ with ea_
                   subst ea_
                   subst ec_
                   have hx394_0 := HX394_0.out
                   rw [add_at, Nat.zero_add] at hx394_0
                   have HPR0 := Aside0.mk hx394_0
                   go_wp2
                   go_loopg [51] k2 (fun kq v51 w' => ∃ (x7_3 : List (List (S27))) (x51_3 : Int), v51 = .int .i64 x51_3 ∧ Aside0 (impl_valueAt.l2 kq l1 x7_3 x44_2 l0_2 (l0_2.length : Int) x29_1 t390 (t390.length : Int) x44_2 (rd_L6 t390 x44_2) ((rd_L6 t390 x44_2).length : Int) x51_3 ((rd_T89 l0_2 x29_1).f0) ((rd_T89 l0_2 x29_1).f1.f0) ((rd_T89 l0_2 x29_1).f1.f1) = some (r1, r2)) ∧ Aside0 (kq ≤ k2) ∧ Aside0 (Kd.S (Kd.slice 27 k27) 77 w' w.heap.size (fun _ => True) v386 x7_3) ∧ Aside0 (Kd.S (Kd.slice 2 (Kd.int .i64)) 48 w' w.heap.size (fun _ => True) (.slice (some ⟨gp, 0, none⟩) t390.length co17) t390) ∧ Aside0 (w'.heap[gb383]? = some (.cells #[.int .i64 a0_0, .int .i64 a0_1, (.slice (some ad388) l0_2.length c0_2)] 32 (0, 0))) ∧ Aside0 (w'.heap[gb389]? = some (.cells #[.string ((rd_T89 l0_2 x29_1).f0), .int .i64 ((rd_T89 l0_2 x29_1).f1.f0), .int .i64 ((rd_T89 l0_2 x29_1).f1.f1)] 89 (0, 0))) ∧ Aside0 (Below w.heap.size w w') ∧ Aside0 (w'.cell? ⟨gp, x44_2.toNat, none⟩ = some (.slice A394_0 (rd_L6 t390 x44_2).length c394_0)))
                   case atStart => exact ⟨x7_2, 0, rfl, H', ⟨Nat.le_refl _⟩, HO_7, HO_42, BK383, BK389, HB, HPR0⟩
                   case round =>
                    clear H' hx394_0 HX394_0 HR394_0 HPR0
                    obtain ⟨x7_3, x51_3, rfl, HA, HK3, HO_7, HO_42, BK383, BK389, HB, HROW⟩ := hrel
                    cases gk with
                    | zero => exact absurd HA.out (by simp [impl_valueAt.l2])
                    | succ k3 =>
                     have H := HA.out
                     clear HA
                     simp only [impl_valueAt.l2] at H
                     by_cases c21 : x51_3 < ((rd_L6 t390 x44_2).length : Int)
                     ·rw [if_pos c21] at H
                      have c21b0 : decide (x51_3 < ((rd_L6 t390 x44_2).length : Int)) = true := decide_eq_true c21
                      by_cases c22 : 0 ≤ x51_3
                      ·rw [if_pos c22] at H
                       by_cases c23 : x51_3 < ((rd_L6 t390 x44_2).length : Int)
                       ·rw [if_pos c23] at H
                        obtain ⟨⟨t396, t397, t398⟩, A24, H⟩ := Option.bind_eq_some_iff.mp H
                        have A24 := Aside0.mk A24
                        dsimp only at H
                        have H' := Aside0.mk H
                        clear H
                        obtain ⟨ad394, A_, c_, e_, hx_, hl_, hi_⟩ := at_L6 (Kd.S_reads' HO_42.out).2.2 x44_2 (of_eq_true p394) (of_eq_true q394)
                        cases e_
                        rw [add_at, Nat.zero_add] at hx_
                        have eq_ := HROW.out.symm.trans hx_
                        injection eq_ with eq_
                        injection eq_ with e1_ _ e3_
                        subst e1_
                        subst e3_
                        obtain ⟨ad395, e395, hx395_0⟩ := Kd.at_int hi_ x51_3 c22 c23
                        cases e395
                        have p395 := eq_true c22
                        have q395 := eq_true c23
                        have z1 : wr.cell? ⟨gb389, 1, none⟩ = some (.int .i64 ((rd_T89 l0_2 x29_1).f1.f0)) := (blk_cell BK389.out 1).trans rfl
                        have z2 : wr.cell? ⟨gb389, 2, none⟩ = some (.int .i64 ((rd_T89 l0_2 x29_1).f1.f1)) := (blk_cell BK389.out 2).trans rfl
                        clear hl_ hi_ hx_
                        cases t398 with
                        | false =>
                         go_wp2_with (first | (go_at_call 114; refine (impl_Fraction_timesWhole.calls k3 (rd_T89 l0_2 x29_1).f1.f0 (rd_T89 l0_2 x29_1).f1.f1 (rd (rd_L6 t390 x44_2) x51_3) t396 t397 false _ A24.out).mono ?_; rintro e w5 ⟨rfl, hb⟩; have HW := Aside0.mk hb; clear hb) | ((with_reducible refine gate_dst (N := 16) rfl ?_); refine box_event ?hg (N := 16) ?hd (cs := #[.int .i64 0, .int .i64 0]) (t := 27) ?hr ?_; (case hd => rfl); (case hg => rfl); (case hr => first | (go_simp; done) | (go_simp; rfl)); intro gb hg wk hbox hb; have HG := Aside0.mk (show wr.heap.size ≤ gb by rw [hg]; exact below_size HW.out); have HX := Aside0.mk hbox; have HW2 := Aside0.mk (below_step HW.out hb); have x0 : wk.cell? ⟨gb, 0, none⟩ = some (.int .i64 0) := (blk_cell hbox 0).trans rfl; have x1 : wk.cell? ⟨gb, 1, none⟩ = some (.int .i64 0) := (blk_cell hbox 1).trans rfl; have f0 := blk_frozen hbox 0; have f1 := blk_frozen hbox 1; clear hbox hb hg))
                         obtain ⟨rfl, rfl⟩ : [] = r1 ∧ 3 = r2 := by simpa using H'.out
                         go_ret2
                         exact ⟨_, rfl, Kd.S_nil _ _ _ _ _, below_step HB.out (below_set (below_set HW2.out HG.out) HG.out)⟩
                        | true =>
                         have H := H'.out
                         rw [if_pos rfl] at H
                         clear H'
                         by_cases c24 : 0 ≤ x44_2
                         ·rw [if_pos c24] at H
                          by_cases c25 : x44_2 < (x7_3.length : Int)
                          ·rw [if_pos c25] at H
                           by_cases c26 : x51_3 < ((rd_L8 x7_3 x44_2).length : Int)
                           ·rw [if_pos c26] at H
                            obtain ⟨⟨t402, t403, t404⟩, A28, H⟩ := Option.bind_eq_some_iff.mp H
                            have A28 := Aside0.mk A28
                            dsimp only at H
                            have H' := Aside0.mk H
                            clear H
                            obtain ⟨go, co, eu7, _, _, _⟩ := Kd.S_form HO_7.out (by omega)
                            subst eu7
                            obtain ⟨gi, ci, hgc, _, hgne, hgb, hgl, hg0, hg1, hgf, ⟨hcells, hgt⟩, hgput⟩ := Hand.S_cell HO_7.out x44_2 x51_3 c24 c25 c22 c26
                            have HGC := Aside0.mk hgc
                            have HG0 := Aside0.mk hg0
                            have HG1 := Aside0.mk hg1
                            clear hgc hgne hgb hgl hg0 hg1 hgf hgt hgput
                            go_wp2_with (first | (go_at_call 114; refine (impl_Fraction_timesWhole.calls k3 (rd_T89 l0_2 x29_1).f1.f0 (rd_T89 l0_2 x29_1).f1.f1 (rd (rd_L6 t390 x44_2) x51_3) t396 t397 true _ A24.out).mono ?_; rintro e w5 ⟨rfl, hb⟩; have HW := Aside0.mk hb; clear hb) | ((with_reducible refine gate_dst (N := 16) rfl ?_); refine box_event ?hg (N := 16) ?hd (cs := #[.int .i64 0, .int .i64 0]) (t := 27) ?hr ?_; (case hd => rfl); (case hg => rfl); (case hr => first | (go_simp; done) | (go_simp; rfl)); intro gb hg wk hbox hb; have HG := Aside0.mk (show wr.heap.size ≤ gb by rw [hg]; exact below_size HW.out); have HX := Aside0.mk hbox; have HW2 := Aside0.mk (below_step HW.out hb); have x0 : wk.cell? ⟨gb, 0, none⟩ = some (.int .i64 0) := (blk_cell hbox 0).trans rfl; have x1 : wk.cell? ⟨gb, 1, none⟩ = some (.int .i64 0) := (blk_cell hbox 1).trans rfl; have f0 := blk_frozen hbox 0; have f1 := blk_frozen hbox 1; clear hbox hb hg))
                            have HX6 := Aside0.mk (blk_put (cs' := #[.int .i64 t396, .int .i64 t397]) (blk_put (cs' := #[.int .i64 t396, .int .i64 0]) HX.out 0 (.int .i64 t396) rfl) 1 (.int .i64 t397) rfl)
                            have HW6 := Aside0.mk (below_set (below_set (j := 0) (v := .int .i64 t396) HW2.out HG.out) (j := 1) (v := .int .i64 t397) HG.out)
                            generalize hW6 : ((wk.setCell ⟨gb, 0, none⟩ (.int .i64 t396)).setCell ⟨gb, 1, none⟩ (.int .i64 t397)) = W6 at HX6 HW6 ⊢
                            clear hW6 HW HW2 HX x0 x1 f0 f1
                            generalize gb = ga at HG HX6 ⊢
                            have y0 : W6.cell? ⟨ga, 0, none⟩ = some (.int .i64 t396) := (blk_cell HX6.out 0).trans rfl
                            have y1 : W6.cell? ⟨ga, 1, none⟩ = some (.int .i64 t397) := (blk_cell HX6.out 1).trans rfl
                            have y2 := pw_cell_below HW6.out HGC.out
                            have y3 := pw_cell_below HW6.out HG0.out
                            have y4 := pw_cell_below HW6.out HG1.out
                            have HS18 := Aside0.mk (show ∀ W, Below W6.drew.heap.size W6.drew W → (fun w' => w'.cell? ⟨go, x44_2.toNat, none⟩ = some (.slice (some ⟨gi, 0, none⟩) (rd_L8 x7_3 x44_2).length ci) ∧ w'.cell? ⟨gi, x51_3.toNat * 2, none⟩ = some (.int .i64 (rd_T27 (rd_L8 x7_3 x44_2) x51_3).f0) ∧ w'.cell? ⟨gi, x51_3.toNat * 2 + 1, none⟩ = some (.int .i64 (rd_T27 (rd_L8 x7_3 x44_2) x51_3).f1) ∧ w'.cell? ⟨ga, 0, none⟩ = some (.int .i64 t396) ∧ w'.cell? ⟨ga, 1, none⟩ = some (.int .i64 t397)) W from fun W hb => ⟨pw_cell_below hb y2, pw_cell_below hb y3, pw_cell_below hb y4, pw_cell_below hb y0, pw_cell_below hb y1⟩)
                            have p24 := eq_true c24
                            have p25 := eq_true c25
                            have p26 := eq_true c26
                            clear y0 y1 y2 y3 y4 HG HX6 z1 z2 hx395_0
                            refine start_ (n := 15) (S := (fun w' => w'.cell? ⟨go, x44_2.toNat, none⟩ = some (.slice (some ⟨gi, 0, none⟩) (rd_L8 x7_3 x44_2).length ci) ∧ w'.cell? ⟨gi, x51_3.toNat * 2, none⟩ = some (.int .i64 (rd_T27 (rd_L8 x7_3 x44_2) x51_3).f0) ∧ w'.cell? ⟨gi, x51_3.toNat * 2 + 1, none⟩ = some (.int .i64 (rd_T27 (rd_L8 x7_3 x44_2) x51_3).f1) ∧ w'.cell? ⟨ga, 0, none⟩ = some (.int .i64 t396) ∧ w'.cell? ⟨ga, 1, none⟩ = some (.int .i64 t397))) (ds := []) #[false, false, false, false, false, false, false, false, false, false, false, false, false, false, false] (by kernel_rfl) rfl rfl (HS18.out _ (Below.refl _ _)) (fun hHeld => ?_)
                            have HW := Aside0.mk (Below.refl W6.drew.heap.size W6.drew)
                            refine zP 0 (N := some 66) (h := ?_)
                            refine zP 1 (N := some 67) (h := ?_)
                            refine zP 2 (N := some 68) (h := ?_)
                            refine zT 3 hHeld (N := some 69) (h := ?_)
                            refine zP 4 (N := some 70) (h := ?_)
                            refine zP 5 (N := some 71) (h := ?_)
                            refine zT 6 hHeld (N := some 72) (h := ?_)
                            refine zT 7 hHeld (N := some 73) (h := ?_)
                            refine join_ (σ := Nat) 2 #[true, true, true, true, true, true, true, true, true, true, true, true, true, false, false] (fun s_ => [(74, .tuple #[.agg #[.int .i64 t402, .int .i64 t403], .bool t404]), (65, .tuple #[.agg #[.int .i64 t402, .int .i64 t403], .bool t404]), (75, .agg #[.int .i64 t402, .int .i64 t403]), (76, .bool t404), (18, .pointer (some ⟨s_, 0, none⟩))]) (fun s_ w' => Below W6.drew.heap.size W6.drew w' ∧ W6.drew.heap.size ≤ s_ ∧ w'.heap[s_]? = some (.cells #[.int .i64 0, .int .i64 0] 27 (0, 0))) ?_ ?_
                            rotate_left
                            ·intro hCont
                             refine two_ (i := 8) (j := 12) (Ni := some 74) (Nj := some 18) #[true, true, true, true, true, true, true, true, true, false, false, false, false, false, false] #[true, true, true, true, true, true, true, true, false, false, false, false, true, false, false] rfl rfl rfl rfl (by kernel_rfl) (by decide) (by decide) (fun K hK => ?_) (fun K hK => ?_)
                             ·skip
                              refine goes_ Try.func115 (by kernel_rfl) rfl #[.agg #[.int .i64 (rd_T27 (rd_L8 x7_3 x44_2) x51_3).f0, .int .i64 (rd_T27 (rd_L8 x7_3 x44_2) x51_3).f1], .agg #[.int .i64 t396, .int .i64 t397]] (by rfl) rfl rfl zM ?_; (with_reducible refine (impl_Fraction_plus.calls k3 (rd_T27 (rd_L8 x7_3 x44_2) x51_3).f0 (rd_T27 (rd_L8 x7_3 x44_2) x51_3).f1 t396 t397 t402 t403 t404 _ A28.out).mono ?_); rintro e w5 ⟨rfl, hb⟩; refine ⟨_, rfl, ?_⟩
                              have HW := Aside0.mk (below_step HW.out hb)
                              clear hb
                              refine hK.out _ _ (HS18.out _ HW.out) (fun hHeld => ?_)
                              clear hK K
                              refine zN (h := ?_)
                              refine zP 9 (N := some 65) (h := ?_)
                              refine zP 10 (N := some 75) (h := ?_)
                              refine zP 11 (N := some 76) (h := ?_)
                              refine one_ (i := 12) (N := some 18) #[true, true, true, true, true, true, true, true, true, true, true, true, true, false, false] rfl rfl (by kernel_rfl) (by decide) (fun K hK => ?_)
                              refine box_step ?hg (N := 18) ?hd (cs := #[.int .i64 0, .int .i64 0]) (t := 27) ?hr ?_; (case hd => rfl); (case hg => rfl); (case hr => first | (go_simp; done) | (go_simp; rfl))
                              intro gb hg wk hbox hb
                              have HG := Aside0.mk (show W6.drew.heap.size ≤ gb by rw [hg]; exact below_size HW.out)
                              have HX := Aside0.mk hbox
                              clear hg hbox
                              have HW := Aside0.mk (below_step HW.out hb)
                              clear hb
                              refine hK.out _ _ (HS18.out _ HW.out) (fun hHeld => ?_)
                              clear hK K
                              refine norm_ (a' := ?_) ?_ ?_
                              rotate_left
                              ·show Act.put _ (some 18) _ = _
                               simp only [Act.put, List.setIfInBounds_toArray, List.set_cons_zero, List.set_cons_succ, i64_w, i32_w]
                               rfl
                              exact norm_ (by simp only [putAll, Act.put, List.setIfInBounds_toArray, List.set_cons_zero, List.set_cons_succ]) (hCont gb _ ⟨HW.out, HG.out, HX.out⟩)
                             ·skip
                              refine box_step ?hg (N := 18) ?hd (cs := #[.int .i64 0, .int .i64 0]) (t := 27) ?hr ?_; (case hd => rfl); (case hg => rfl); (case hr => first | (go_simp; done) | (go_simp; rfl))
                              intro gb hg wk hbox hb
                              have HG := Aside0.mk (show W6.drew.heap.size ≤ gb by rw [hg]; exact below_size HW.out)
                              have HX := Aside0.mk hbox
                              clear hg hbox
                              have HW := Aside0.mk (below_step HW.out hb)
                              clear hb
                              refine hK.out _ _ (HS18.out _ HW.out) (fun hHeld => ?_)
                              clear hK K
                              refine norm_ (a' := ?_) ?_ ?_
                              rotate_left
                              ·show Act.put _ (some 18) _ = _
                               simp only [Act.put, List.setIfInBounds_toArray, List.set_cons_zero, List.set_cons_succ, i64_w, i32_w]
                               rfl
                              refine one_ (i := 8) (N := some 74) #[true, true, true, true, true, true, true, true, true, false, false, false, true, false, false] rfl rfl (by kernel_rfl) (by decide) (fun K hK => ?_)
                              refine goes_ Try.func115 (by kernel_rfl) rfl #[.agg #[.int .i64 (rd_T27 (rd_L8 x7_3 x44_2) x51_3).f0, .int .i64 (rd_T27 (rd_L8 x7_3 x44_2) x51_3).f1], .agg #[.int .i64 t396, .int .i64 t397]] (by rfl) rfl rfl zM ?_; (with_reducible refine (impl_Fraction_plus.calls k3 (rd_T27 (rd_L8 x7_3 x44_2) x51_3).f0 (rd_T27 (rd_L8 x7_3 x44_2) x51_3).f1 t396 t397 t402 t403 t404 _ A28.out).mono ?_); rintro e w5 ⟨rfl, hb⟩; refine ⟨_, rfl, ?_⟩
                              have HX := Aside0.mk ((hb.block gb (blk_lt HX.out)).trans HX.out)
                              have HW := Aside0.mk (below_step HW.out hb)
                              clear hb
                              refine hK.out _ _ (HS18.out _ HW.out) (fun hHeld => ?_)
                              clear hK K
                              refine zN (h := ?_)
                              refine zP 9 (N := some 65) (h := ?_)
                              refine zP 10 (N := some 75) (h := ?_)
                              refine zP 11 (N := some 76) (h := ?_)
                              exact norm_ (by simp only [putAll, Act.put, List.setIfInBounds_toArray, List.set_cons_zero, List.set_cons_succ]) (hCont gb _ ⟨HW.out, HG.out, HX.out⟩)
                            intro gb wj hj
                            obtain ⟨hjb, hjg, hjx⟩ := hj
                            have HW := Aside0.mk hjb
                            have HG := Aside0.mk hjg
                            have HX := Aside0.mk hjx
                            clear hjb hjg hjx
                            have hHeld := HS18.out _ HW.out
                            refine norm_ (a' := ?_) ?_ ?_
                            rotate_left
                            ·simp only [putAll, Act.put, List.setIfInBounds_toArray, List.set_cons_zero, List.set_cons_succ]
                             rfl
                            have x0 := (blk_cell HX.out 0).trans (show _ = some (Value.int .i64 0) from rfl)
                            have x1 := (blk_cell HX.out 1).trans (show _ = some (Value.int .i64 0) from rfl)
                            have f0 := blk_frozen HX.out 0
                            have f1 := blk_frozen HX.out 1
                            refine one_ (i := 13) (N := none) #[true, true, true, true, true, true, true, true, true, true, true, true, true, true, false] rfl rfl (by kernel_rfl) (by decide) (fun K hK => ?_)
                            go_simp
                            have hb2 := below_set (below_set (j := 0) (v := .int .i64 t402) HW.out HG.out) (j := 1) (v := .int .i64 t403) HG.out
                            refine hK.out _ _ (HS18.out _ hb2) (fun hHeld => ?_)
                            clear hK K
                            have HX := Aside0.mk (blk_put (cs' := #[.int .i64 t402, .int .i64 t403]) (blk_put (cs' := #[.int .i64 t402, .int .i64 0]) HX.out 0 (.int .i64 t402) rfl) 1 (.int .i64 t403) rfl)
                            have HW := Aside0.mk hb2
                            clear hb2 x0 x1 f0 f1 hHeld
                            refine zP 14 (N := some 19) (h := ?_)
                            refine done_ (by kernel_rfl) ?_
                            generalize hW7 : ((wj.setCell ⟨gb, 0, none⟩ (.int .i64 t402)).setCell ⟨gb, 1, none⟩ (.int .i64 t403)) = W7 at HW HX ⊢
                            clear hW7 HG HS18
                            have HB7 := Aside0.mk (below_step (below_drew (below_step HB.out HW6.out)) HW.out)
                            cases t404 with
                            | false =>
                             obtain ⟨rfl, rfl⟩ : [] = r1 ∧ 3 = r2 := by simpa using H'.out
                             go_wp2
                             go_ret2
                             exact ⟨_, rfl, Kd.S_nil _ _ _ _ _, HB7.out⟩
                            | true =>
                             have H := H'.out
                             rw [if_pos rfl] at H
                             have H' := Aside0.mk H
                             clear H
                             have HO7 := Aside0.mk (Kd.S_drew (Kd.S_below (Kd.S_drew (Kd.S_below HO_7.out HW6.out)) HW.out))
                             have HP7 := Aside0.mk (Kd.S_drew (Kd.S_below (Kd.S_drew (Kd.S_below HO_42.out HW6.out)) HW.out))
                             have BK7 := Aside0.mk (blk_drew (blk_below (g := gb383) (o := .cells #[.int .i64 a0_0, .int .i64 a0_1, .slice (some ad388) l0_2.length c0_2] 32 (0, 0)) (blk_drew (blk_below (g := gb383) (o := .cells #[.int .i64 a0_0, .int .i64 a0_1, .slice (some ad388) l0_2.length c0_2] 32 (0, 0)) BK383.out HW6.out)) HW.out))
                             have BK8 := Aside0.mk (blk_drew (blk_below (g := gb389) (o := .cells #[.string (rd_T89 l0_2 x29_1).f0, .int .i64 (rd_T89 l0_2 x29_1).f1.f0, .int .i64 (rd_T89 l0_2 x29_1).f1.f1] 89 (0, 0)) (blk_drew (blk_below (g := gb389) (o := .cells #[.string (rd_T89 l0_2 x29_1).f0, .int .i64 (rd_T89 l0_2 x29_1).f1.f0, .int .i64 (rd_T89 l0_2 x29_1).f1.f1] 89 (0, 0)) BK389.out HW6.out)) HW.out))
                             have hout7 : W7.drew.cell? ⟨go, x44_2.toNat, none⟩ = some (.slice (some ⟨gi, 0, none⟩) (rd_L8 x7_3 x44_2).length ci) := pw_cell_below HW.out (show W6.drew.cell? ⟨go, x44_2.toNat, none⟩ = _ from pw_cell_below HW6.out HGC.out)
                             have hrow7 : W7.drew.cell? ⟨gp, x44_2.toNat, none⟩ = some (.slice (some ad395) (rd_L6 t390 x44_2).length c394_0) := pw_cell_below HW.out (show W6.drew.cell? ⟨gp, x44_2.toNat, none⟩ = _ from pw_cell_below HW6.out HROW.out)
                             have HB8 := Aside0.mk (below_drew HB7.out)
                             have y0 : W7.drew.cell? ⟨gb, 0, none⟩ = some (.int .i64 t402) := (blk_cell HX.out 0).trans rfl
                             have y1 : W7.drew.cell? ⟨gb, 1, none⟩ = some (.int .i64 t403) := (blk_cell HX.out 1).trans rfl
                             obtain ⟨gi', ci', hgc, _, hgne, hgb, hgl, hg0, hg1, hgf, ⟨hcells, hgt⟩, hgput⟩ := Hand.S_cell HO7.out x44_2 x51_3 c24 c25 c22 c26
                             have eq_ := hout7.symm.trans hgc
                             obtain rfl : gi = gi' := by injection eq_ with e_; injection e_ with e_; injection e_ with e_; injection e_
                             have z0 := hgf (x51_3.toNat * 2)
                             have z1 := hgf (x51_3.toNat * 2 + 1)
                             have hg1_ : W7.cell? ⟨gi, x51_3.toNat * 2 + 1, none⟩ = _ := hg1
                             have hg0_ : W7.cell? ⟨gi, x51_3.toNat * 2, none⟩ = _ := hg0
                             have z0_ : W7.frozen? ⟨gi, x51_3.toNat * 2, none⟩ = false := z0
                             have z1_ : W7.frozen? ⟨gi, x51_3.toNat * 2 + 1, none⟩ = false := z1
                             have hbk : gb383 ≠ gi := fun e => by have h1 := BK7.out; rw [e, hgt] at h1; injection h1 with h1; injection h1 with _ h1; cases h1
                             have hbk2 : gb389 ≠ gi := fun e => by have h1 := BK8.out; rw [e, hgt] at h1; injection h1 with h1; injection h1 with _ h1; cases h1
                             have hbp : gi ≠ gp := fun e => Kd.S_ne HP7.out hgt (by decide) (by rw [e]; simp [Value.ownBlock])
                             have HS21 := Aside0.mk (show (fun w' => w'.cell? ⟨go, x44_2.toNat, none⟩ = some (.slice (some ⟨gi, 0, none⟩) (rd_L8 x7_3 x44_2).length ci) ∧ w'.cell? ⟨gb, 0, none⟩ = some (.int .i64 t402) ∧ w'.cell? ⟨gb, 1, none⟩ = some (.int .i64 t403)) W7.drew from ⟨hout7, y0, y1⟩)
                             have HGT := Aside0.mk hgt
                             have HPUT := Aside0.mk hgput
                             have HGB := Aside0.mk hgb
                             have HBK := Aside0.mk hbk
                             have HBK2 := Aside0.mk hbk2
                             have HBP := Aside0.mk hbp
                             have HRW := Aside0.mk hrow7
                             clear hgt hgput hgb hgne hbk hbk2 hbp hrow7 hgc eq_ hgf hgl y0 y1 hout7
                             go_wp2
                             refine start_ (n := 8) (S := (fun w' => w'.cell? ⟨go, x44_2.toNat, none⟩ = some (.slice (some ⟨gi, 0, none⟩) (rd_L8 x7_3 x44_2).length ci) ∧ w'.cell? ⟨gb, 0, none⟩ = some (.int .i64 t402) ∧ w'.cell? ⟨gb, 1, none⟩ = some (.int .i64 t403))) (ds := [7]) #[false, false, false, false, false, false, false, false] (by kernel_rfl) rfl rfl HS21.out (fun hHeld => ?_)
                             refine zP 0 (N := some 79) (h := ?_)
                             refine zP 1 (N := some 80) (h := ?_)
                             refine zP 2 (N := some 81) (h := ?_)
                             refine zT 3 hHeld (N := some 82) (h := ?_)
                             refine zP 4 (N := some 83) (h := ?_)
                             refine zT 5 hHeld (N := some 84) (h := ?_)
                             refine zP 6 (N := some 85) (h := ?_)
                             refine last_ (i := 7) (N := none) #[true, true, true, true, true, true, true, true] rfl rfl (by kernel_rfl) (by decide) (fun K hK => ?_)
                             go_simp
                             refine hK.out _ _ ?_
                             clear hK K
                             refine done_ (by kernel_rfl) ?_
                             go_wp2
                             go_roundg k3
                             case measure => have := HK1.out; have := HK2.out; have := HK3.out; omega
                             case rel =>
                              refine ⟨_, wrap64 (x51_3 + 1), by first | rfl | (simp; done), H', ⟨by have := HK1.out; have := HK2.out; have := HK3.out; omega⟩, ⟨HPUT.out t402 t403⟩, ⟨Kd.S_set (Kd.S_set HP7.out HGT.out (by decide) _ _) (blk_put HGT.out _ _ rfl) (by decide) _ _⟩, ⟨(Below.heap_setCell _ ⟨gi, _, none⟩ _ gb383 HBK.out).trans ((Below.heap_setCell _ ⟨gi, _, none⟩ _ gb383 HBK.out).trans BK7.out)⟩, ⟨(Below.heap_setCell _ ⟨gi, _, none⟩ _ gb389 HBK2.out).trans ((Below.heap_setCell _ ⟨gi, _, none⟩ _ gb389 HBK2.out).trans BK8.out)⟩, ⟨below_set (below_set HB8.out HGB.out) HGB.out⟩, ⟨(World.cell?_setCell_far _ ⟨gi, _, none⟩ ⟨gp, _, none⟩ _ HBP.out).trans ((World.cell?_setCell_far _ ⟨gi, _, none⟩ ⟨gp, _, none⟩ _ HBP.out).trans HRW.out)⟩⟩
                           ·rw [if_neg c26] at H
                            exact absurd H (by simp)
                          ·rw [if_neg c25] at H
                           exact absurd H (by simp)
                         ·rw [if_neg c24] at H
                          exact absurd H (by simp)
                       ·rw [if_neg c23] at H
                        exact absurd H (by simp)
                      ·rw [if_neg c22] at H
                       exact absurd H (by simp)
                     ·rw [if_neg c21] at H
                      have c21b0 : decide (x51_3 < ((rd_L6 t390 x44_2).length : Int)) = false := decide_eq_false c21
                      have H' := Aside0.mk H
                      clear H
                      go_wp2
                      go_roundg k3
                      case measure => have := HK1.out; have := HK2.out; have := HK3.out; omega
                      case rel => exact ⟨x7_3, wrap64 (x44_2 + 1), by first | rfl | (simp; done), H', ⟨by have := HK1.out; have := HK2.out; have := HK3.out; omega⟩, HO_7, HO_42, BK383, BK389, HB⟩
                  ·rw [if_neg c20] at H
                   exact absurd H (by simp)
                 ·rw [if_neg c19] at H
                  exact absurd H (by simp)
                ·rw [if_neg c18] at H
                 have c18b0 : decide (x44_2 < (t390.length : Int)) = false := decide_eq_false c18
                 clear c18
                 have H' := Aside0.mk H
                 clear H
                 go_wp2
                 go_roundg k2
                 case measure => have := HK1.out; have := HK2.out; omega
                 case rel => exact ⟨(x7_2), (wrap64 (x29_1 + 1)), (by first | rfl | (simp; done) | (simp [*]; done)), H', ⟨by have := HK1.out; have := HK2.out; omega⟩, ⟨zS⟩, ⟨zK⟩, ⟨zB⟩⟩
             ·replace c12 := Bool.eq_false_iff.mpr c12
              subst c12
              have H1 : (some (([] : List (List (S27))), 3)) = some (r1, r2) := by rw [if_neg (show ¬ (false = true) by decide)] at H; exact H
              clear H
              have H := H1
              clear H1
              simp only [Option.some.injEq, Prod.mk.injEq] at H
              obtain ⟨rfl, rfl⟩ := H
              have p388 : 0 ≤ (x29_1 : Int) := zD
              have q388 : x29_1 < (l0_2.length : Int) := zD
              obtain ⟨ad388, e388, hx388_0, hx388_1, hx388_2⟩ := at_T89 HR0_2.out x29_1 p388 q388
              cases e388
              replace hx388_0 := zH HB hx388_0
              replace hx388_1 := zH HB hx388_1
              replace hx388_2 := zH HB hx388_2
              replace p388 := eq_true p388
              replace q388 := eq_true q388
              go_wp2_with (first | ((with_reducible refine gate_dst (N := 9) rfl ?_); refine box_event ?hg (N := 9) ?hd (cs := #[.string (⟨#[]⟩ : ByteArray), .int .i64 0, .int .i64 0]) (t := 89) ?hr ?_; (case hd => rfl); (case hg => rfl); (case hr => first | (go_simp; done) | (go_simp; rfl)); intro gb389 hg w73 hbox hb; have n0_ := Aside0.mk (Kd.S_below zS hb); have n1_ := Aside0.mk (blk_below (g := gb383) (o := .cells #[.int .i64 a0_0, .int .i64 a0_1, .slice (some ad388) l0_2.length c0_2] 32 (0, 0)) zK hb); have n2_ := Aside0.mk (below_step zB hb); have n3_ := Aside0.mk (hbox); have n4_ := Aside0.mk (zG : w.heap.size ≤ gb389); have n5_ := Aside0.mk (zG : w.heap.size ≤ gb389); have n6_ := Aside0.mk ((by rw [hg]; exact Nat.ne_of_lt (blk_lt (g := gb383) (o := .cells #[.int .i64 a0_0, .int .i64 a0_1, .slice (some ad388) l0_2.length c0_2] 32 (0, 0)) zK) : gb383 ≠ gb389)); have n7_ := Aside0.mk ((by rw [hg]; exact Nat.ne_of_gt (blk_lt (g := gb383) (o := .cells #[.int .i64 a0_0, .int .i64 a0_1, .slice (some ad388) l0_2.length c0_2] 32 (0, 0)) zK) : gb389 ≠ gb383)); clear HO_7; clear BK383; clear HB; have HO_7 := n0_; have BK383 := n1_; have HB := n2_; have BK389 := n3_; have GW389 := n4_; have GE389 := n5_; have NB383_389 := n6_; have NB389_383 := n7_; clear n0_ n1_ n2_ n3_ n4_ n5_ n6_ n7_; clear hb hbox hg; have hnb74 := NB389_383.out; have hnc74 := NB383_389.out; have hcz75_0 : w73.cell? ⟨gb389, 0, none⟩ = some (.string (⟨#[]⟩ : ByteArray)) := zE BK389; have hcz75_1 : w73.cell? ⟨gb389, 1, none⟩ = some (.int .i64 0) := zE BK389; have hcz75_2 : w73.cell? ⟨gb389, 2, none⟩ = some (.int .i64 0) := zE BK389; have hfz75_0 := blk_frozen BK389.out 0; have hfz75_1 := blk_frozen BK389.out 1; have hfz75_2 := blk_frozen BK389.out 2) | ((with_reducible refine gate_callee (f := 113) rfl ?_); refine goesL_ (some 37) rfl rfl Try.func113 (by kernel_rfl) rfl #[.slice (some ad384) l1.length c1, .string ((rd_T89 l0_2 x29_1).f0)] rfl zM ?_; (with_reducible refine (impl_product.calls k1 _ _ l1 ((rd_T89 l0_2 x29_1).f0) t390 false _ ?side1 ?side2 A11.out).mono ?_); (case side1 => exact Kd.C_below HR1.out zB); (case side2 => exact HC1.out); rintro e w76 ⟨v392, rfl, ho0, hb⟩; refine ⟨_, rfl, ?_⟩; have n0_ := Aside0.mk (Kd.S_below (by (with_reducible repeat (first | apply Kd.S_alloc | apply Kd.S_drewN | apply Kd.S_drew)); exact (Kd.S_mono (Kd.S_far (p := ⟨gb389, 2, none⟩) (Kd.S_far (p := ⟨gb389, 1, none⟩) (Kd.S_far (p := ⟨gb389, 0, none⟩) (Kd.S_types HO_7.out BK389.out (by decide)) (fun _ hk => hk.2) (.string ((rd_T89 l0_2 x29_1).f0))) (fun _ hk => hk.2) (.int .i64 ((rd_T89 l0_2 x29_1).f1.f0))) (fun _ hk => hk.2) (.int .i64 ((rd_T89 l0_2 x29_1).f1.f1))) (fun _ h_ => h_.1))) hb); have n1_ := Aside0.mk (Kd.S_lower ho0 (below_size zB)); have n2_ := Aside0.mk (blk_below (g := gb383) (o := .cells #[.int .i64 a0_0, .int .i64 a0_1, .slice (some ad388) l0_2.length c0_2] 32 (0, 0)) (by (with_reducible repeat (first | refine blk_drewN ?_ _ | refine blk_drew ?_ | refine blk_alloc ?_ _)); refine blk_far ?_ NB383_389.out _; (with_reducible repeat (first | refine blk_drewN ?_ _ | refine blk_drew ?_ | refine blk_alloc ?_ _)); refine blk_far ?_ NB383_389.out _; (with_reducible repeat (first | refine blk_drewN ?_ _ | refine blk_drew ?_ | refine blk_alloc ?_ _)); refine blk_far ?_ NB383_389.out _; exact zK) hb); have n3_ := Aside0.mk (blk_below (g := gb389) (o := .cells #[.string ((rd_T89 l0_2 x29_1).f0), .int .i64 ((rd_T89 l0_2 x29_1).f1.f0), .int .i64 ((rd_T89 l0_2 x29_1).f1.f1)] 89 (0, 0)) (by (with_reducible repeat (first | refine blk_drewN ?_ _ | refine blk_drew ?_ | refine blk_alloc ?_ _)); refine blk_put (cs := #[.string ((rd_T89 l0_2 x29_1).f0), .int .i64 ((rd_T89 l0_2 x29_1).f1.f0), .int .i64 0]) ?_ 2 _ rfl; (with_reducible repeat (first | refine blk_drewN ?_ _ | refine blk_drew ?_ | refine blk_alloc ?_ _)); refine blk_put (cs := #[.string ((rd_T89 l0_2 x29_1).f0), .int .i64 0, .int .i64 0]) ?_ 1 _ rfl; (with_reducible repeat (first | refine blk_drewN ?_ _ | refine blk_drew ?_ | refine blk_alloc ?_ _)); refine blk_put (cs := #[.string (⟨#[]⟩ : ByteArray), .int .i64 0, .int .i64 0]) ?_ 0 _ rfl; exact zK) hb); have n4_ := Aside0.mk (below_step zB hb); clear HO_7; clear BK383; clear BK389; clear HB; have HO_7 := n0_; have HO393 := n1_; have BK383 := n2_; have BK389 := n3_; have HB := n4_; clear n0_ n1_ n2_ n3_ n4_; (try clear hb); (try clear hb2); (try clear hk); (try clear hi); (try clear ho0)))
              go_ret2
              exact ⟨_, by first | rfl | (simp [errW_none, errW_some] <;> rfl) | (simp [*, errW_none, errW_some] <;> rfl), by first | exact Kd.S_nil _ _ _ _ _ | exact Kd.N_nil _ _ _ _ _ | exact Kd.V_nil _ _ _ _ _ | exact Kd.Q_nil _ _ _ _ _ | exact Kd.R_nil _ _ _ _ _, zB⟩
            ·rw [if_neg c10] at H
             exact absurd H (by simp)
          · rw [if_neg c9] at H
            exact absurd H (by simp)
        · rw [if_neg c8] at H
          have c8b0 : decide (x29_1 < (l0_2.length : Int)) = false := decide_eq_false c8
          clear c8
          simp only [Option.some.injEq, Prod.mk.injEq] at H
          obtain ⟨rfl, rfl⟩ := H
          go_wp2
          go_ret2
          exact ⟨_, by first | rfl | (simp [errW_none, errW_some] <;> rfl) | (simp [*, errW_none, errW_some] <;> rfl), zS, zB⟩
  · rw [if_neg c3] at H
    exact absurd H (by simp)
end Go.Proofs.Ytcklefgkbddlhaa.P
