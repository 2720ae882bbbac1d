/- What a call of each Go function named below comes to is what the plain function beside it says. -/
import Derived.Test.YtcklefgkbddlhaaPx0
import Derived.Test.YtcklefgkbddlhaaPx11
import Derived.Test.YtcklefgkbddlhaaPx13
import Derived.Test.YtcklefgkbddlhaaPx16
namespace Go.Proofs.Ytcklefgkbddlhaa.P
open Go.RowKit Go.Proofs.YtcklefgkbddlhaaW.PrintWords Go.Proofs.YtcklefgkbddlhaaW.PrintLast Go.Proofs.YtcklefgkbddlhaaW.PrintMore
attribute [local go_sem] max2_int min2_int max_two min_two max_three min_three max_four min_four
set_option linter.unusedVariables false
set_option linter.unusedSimpArgs false
/-! ### impl_Fraction_timesWhole: function 114 -/
def impl_Fraction_timesWhole.j0 : Nat → Int → Bool → Int → Int → Option (Int × Int × Bool)
  | 0, _, _, _, _ => none
  | k + 1, x1, x13, x384000, x384001 => if x13 = true then ((impl_zero.f).bind fun bt385 => (some (bt385.1, bt385.2, true))) else ((impl_common.f k x1 x384001).bind fun t387 => (if t387 = 0 then (none) else ((impl_upTo.f (wrap64 (Int.tdiv x1 t387)) 1000000000).bind fun t388 => (if t388 = true then ((impl_reduced.f k (wrap64 (x384000 * (wrap64 (Int.tdiv x1 t387)))) (wrap64 (Int.tdiv x384001 t387))).bind fun bt389 => (some (bt389.1, bt389.2.1, bt389.2.2))) else ((impl_zero.f).bind fun bt392 => (some (bt392.1, bt392.2, false)))))))
def impl_Fraction_timesWhole.f (k : Nat) (a0_0 : Int) (a0_1 : Int) (a1 : Int) : Option (Int × Int × Bool) := if a1 = 0 then (impl_Fraction_timesWhole.j0 k a1 true a0_0 a0_1) else (impl_Fraction_timesWhole.j0 k a1 (a0_0 == 0) a0_0 a0_1)
theorem impl_Fraction_timesWhole.mono_l : ∀ k, (∀ y0 y1 y2 y3, LeO (impl_Fraction_timesWhole.j0 k y0 y1 y2 y3) (impl_Fraction_timesWhole.j0 (k + 1) y0 y1 y2 y3))
  | 0 => fun _ _ _ _ r h => by simp [impl_Fraction_timesWhole.j0] at h
  | k + 1 => by
    have ih0 := impl_Fraction_timesWhole.mono_l k
    · intro y0 y1 y2 y3
      unfold impl_Fraction_timesWhole.j0
      repeat' first
      | (with_reducible exact ih0 _ _ _ _)
      | (with_reducible exact impl_common.mono _ _ _)
      | (with_reducible exact impl_reduced.mono _ _ _)
      | (with_reducible exact LeO.refl _)
      | (with_reducible exact LeO.none _)
      | (with_reducible refine LeO.ite ?_ ?_)
      | (with_reducible refine LeO.bind ?_ (fun _ => ?_))
theorem impl_Fraction_timesWhole.mono : ∀ a0 a1 a2 k, LeO (impl_Fraction_timesWhole.f k a0 a1 a2) (impl_Fraction_timesWhole.f (k + 1) a0 a1 a2) := by
  intro a0 a1 a2 k
  have ih0 := impl_Fraction_timesWhole.mono_l k
  unfold impl_Fraction_timesWhole.f
  repeat' first
      | (with_reducible exact ih0 _ _ _ _)
      | (with_reducible exact impl_common.mono _ _ _)
      | (with_reducible exact impl_reduced.mono _ _ _)
      | (with_reducible exact LeO.refl _)
      | (with_reducible exact LeO.none _)
      | (with_reducible refine LeO.ite ?_ ?_)
      | (with_reducible refine LeO.bind ?_ (fun _ => ?_))
def impl_Fraction_timesWhole.T6 : Bool × List (List Nat × List Nat) := (true, [([], []), ([0], [0]), ([], []), ([], []), ([2, 3], [2, 3]), ([1, 4], [1, 4]), ([], []), ([6], [6]), ([], []), ([7, 8], [7, 8]), ([5, 9], [5, 9]), ([10], [10]), ([10], [10]), ([11, 10, 0, 1, 2, 3, 4, 5, 6, 7, 8, 9, 10, 11, 12], [11]), ([12, 13, 0, 1, 2, 3, 4, 5, 6, 7, 8, 9, 10, 11, 12, 13], [12])])
def impl_Fraction_timesWhole.B6 : List Nat := [0, 1, 0, 0, 12, 31, 0, 64, 0, 448, 1023, 2047, 2047, 8191, 16383]
theorem impl_Fraction_timesWhole.tab6 : rtab .any (opsOf Try.f114 6) = impl_Fraction_timesWhole.T6 := by kernel_rfl
theorem impl_Fraction_timesWhole.bits6 : waitsOk impl_Fraction_timesWhole.T6.2 impl_Fraction_timesWhole.B6 = true := by kernel_rfl
set_option maxHeartbeats 8000000 in
set_option maxRecDepth 100000 in
theorem impl_Fraction_timesWhole.calls (k : Nat) (a0_0 : Int) (a0_1 : Int) (a1 : Int) (r1 : Int) (r2 : Int) (r3 : Bool) (w : World) (h : impl_Fraction_timesWhole.f k a0_0 a0_1 a1 = some (r1, r2, r3)) :
    Calls Try.prog 114 #[.agg #[.int .i64 a0_0, .int .i64 a0_1], .int .i64 a1] w fun e w' => e = .returned (.tuple #[.agg #[.int .i64 r1, .int .i64 r2], .bool r3]) ∧ Below w.heap.size w w' := by
  have hu27 := Try.underlying27
  have HB := Aside0.mk (Below.refl w.heap.size w)
  have H : (if a1 = 0 then (impl_Fraction_timesWhole.j0 k a1 true a0_0 a0_1) else (impl_Fraction_timesWhole.j0 k a1 (a0_0 == 0) a0_0 a0_1)) = some (r1, r2, r3) := h
  clear h
  have HC3 := Aside0.mk H
  clear H
  go_enter Try.func114, Try.ntmps114
  go_upto_region 1 with (first | ((with_reducible refine gate_dst (N := 2) rfl ?_); refine box_event ?hg (N := 2) ?hd (cs := #[.int .i64 a0_0, .int .i64 a0_1]) (t := 27) ?hr ?_; (case hd => rfl); (case hg => rfl); (case hr => first | (go_simp; done) | (go_simp; rfl)); intro gb383 hg w4 hbox hb; have n0_ := Aside0.mk (below_step zB hb); have n1_ := Aside0.mk (hbox); have n2_ := Aside0.mk (zG : w.heap.size ≤ gb383); have n3_ := Aside0.mk (zG : w.heap.size ≤ gb383); clear HB; have HB := n0_; have BK383 := n1_; have GW383 := n2_; have GE383 := n3_; clear n0_ n1_ n2_ n3_; clear hb hbox hg) | ((with_reducible refine gate_dst (N := 4) rfl ?_); refine box_event ?hg (N := 4) ?hd (cs := #[.int .i64 0, .int .i64 0]) (t := 27) ?hr ?_; (case hd => rfl); (case hg => rfl); (case hr => first | (go_simp; done) | (go_simp; rfl)); intro gb384 hg w5 hbox hb; have n0_ := Aside0.mk (blk_below (g := gb383) (o := .cells #[.int .i64 a0_0, .int .i64 a0_1] 27 (0, 0)) zK hb); have n1_ := Aside0.mk (below_step zB hb); have n2_ := Aside0.mk (hbox); have n3_ := Aside0.mk (zG : w.heap.size ≤ gb384); have n4_ := Aside0.mk (zG : w.heap.size ≤ gb384); have n5_ := Aside0.mk ((by rw [hg]; exact Nat.ne_of_lt (blk_lt (g := gb383) (o := .cells #[.int .i64 a0_0, .int .i64 a0_1] 27 (0, 0)) zK) : gb383 ≠ gb384)); have n6_ := Aside0.mk ((by rw [hg]; exact Nat.ne_of_gt (blk_lt (g := gb383) (o := .cells #[.int .i64 a0_0, .int .i64 a0_1] 27 (0, 0)) zK) : gb384 ≠ gb383)); clear BK383; clear HB; have BK383 := n0_; have HB := n1_; have BK384 := n2_; have GW384 := n3_; have GE384 := n4_; have NB383_384 := n5_; have NB384_383 := n6_; clear n0_ n1_ n2_ n3_ n4_ n5_ n6_; clear hb hbox hg))
  (try simp only [Act.put, List.setIfInBounds_toArray, List.set_cons_zero, List.set_cons_succ])
  go_cut [13] (fun v13 wc => ∃ (kq : Nat) (x13_2 : Bool), v13 = .bool x13_2 ∧ Aside0 (impl_Fraction_timesWhole.j0 kq a1 x13_2 a0_0 a0_1 = some (r1, r2, r3)) ∧ Aside0 (kq ≤ k) ∧ Aside0 (wc.heap[gb383]? = some (.cells #[.int .i64 a0_0, .int .i64 a0_1] 27 (0, 0))) ∧ Aside0 (wc.heap[gb384]? = some (.cells #[.int .i64 0, .int .i64 0] 27 (0, 0))) ∧ Aside0 (Below w.heap.size w wc))
  case first =>
    have H := HC3.out
    clear HC3
    by_cases c6 : a1 = 0
    · rw [if_pos c6] at H
      have c6b0 : (a1 == 0) = true := beq_iff_eq.mpr c6
      have c6b1 : (a1 != 0) = false := bne_eq_false_iff_eq.mpr c6
      clear c6
      (first | rw [c6b0] | (simp only [i64_w, i32_w]; rw [c6b0]) | skip)
      have H' := Aside0.mk H
      clear H
      go_wp2
      go_meet
      case rel => exact ⟨_, (true), (by first | rfl | (simp; done) | (simp [*]; done)), H', ⟨by first | omega | exact Nat.le_refl _⟩, ⟨zK⟩, ⟨zK⟩, ⟨zB⟩⟩
    · rw [if_neg c6] at H
      have c6b0 : (a1 == 0) = false := beq_eq_false_iff_ne.mpr c6
      have c6b1 : (a1 != 0) = true := bne_iff_ne.mpr c6
      (first | rw [c6b0] | (simp only [i64_w, i32_w]; rw [c6b0]) | skip)
      have H' := Aside0.mk H
      clear H
      have hnb7 := NB383_384.out
      have hnc7 := NB384_383.out
      have hcz8_0 : w5.cell? ⟨gb383, 0, none⟩ = some (.int .i64 a0_0) := zE BK383
      have hcz8_1 : w5.cell? ⟨gb383, 1, none⟩ = some (.int .i64 a0_1) := zE BK383
      have hfz8_0 := blk_frozen BK383.out 0
      have hfz8_1 := blk_frozen BK383.out 1
      go_wp2
      go_meet
      case rel => exact ⟨_, ((a0_0 == 0)), (by first | rfl | (simp; done) | (simp [*]; done)), H', ⟨by first | omega | exact Nat.le_refl _⟩, ⟨zK⟩, ⟨zK⟩, ⟨zB⟩⟩
  case rest =>
    clear HC3
    obtain ⟨kq, x13_2, rfl, HA, HJ2, BK383, BK384, HB⟩ := hcut
    cases kq with
    | zero => exact absurd HA.out (by simp [impl_Fraction_timesWhole.j0])
    | succ kj2 =>
      have H := HA.out
      clear HA
      simp only [impl_Fraction_timesWhole.j0] at H
      by_cases c9 : x13_2 = true
      · subst c9
        have H1 : ((impl_zero.f).bind fun bt385 => (some (bt385.1, bt385.2, true))) = some (r1, r2, r3) := by rw [if_pos rfl] at H; exact H
        clear H
        have H := H1
        clear H1
        replace H := Option.bind_eq_some_iff.mp H
        obtain ⟨⟨t385, t386⟩, A100, H⟩ := H
        replace H : (some (t385, t386, true)) = some (r1, r2, r3) := H
        have A10 := Aside0.mk A100
        clear A100
        simp only [Option.some.injEq, Prod.mk.injEq] at H
        obtain ⟨rfl, rfl, rfl⟩ := H
        go_wp2_with (first | ((with_reducible refine gate_callee (f := 131) rfl ?_); refine goesL_ (some 14) rfl rfl Try.func131 (by kernel_rfl) rfl #[] rfl zM ?_; (with_reducible refine (impl_zero.calls  t385 t386 _ A10.out).mono ?_); rintro e w11 ⟨rfl, hb⟩; refine ⟨_, rfl, ?_⟩; have n0_ := Aside0.mk (blk_below (g := gb383) (o := .cells #[.int .i64 a0_0, .int .i64 a0_1] 27 (0, 0)) zK hb); have n1_ := Aside0.mk (blk_below (g := gb384) (o := .cells #[.int .i64 0, .int .i64 0] 27 (0, 0)) zK hb); have n2_ := Aside0.mk (below_step zB hb); clear BK383; clear BK384; clear HB; have BK383 := n0_; have BK384 := n1_; have HB := n2_; clear n0_ n1_ n2_; (try clear hb); (try clear hb2); (try clear hk); (try clear hi); have hnb12 := NB384_383.out; have hnc12 := NB383_384.out; have hcz13_0 : w11.cell? ⟨gb384, 0, none⟩ = some (.int .i64 0) := zE BK384; have hcz13_1 : w11.cell? ⟨gb384, 1, none⟩ = some (.int .i64 0) := zE BK384; have hfz13_0 := blk_frozen BK384.out 0; have hfz13_1 := blk_frozen BK384.out 1))
        refine bodyPost_ret (results_ct rfl _ _ gb384 27 #[.int .i64 t385, .int .i64 t386] (0, 0) _ rfl (by (with_reducible repeat (first | refine blk_drewN ?_ _ | refine blk_drew ?_ | refine blk_alloc ?_ _)); refine blk_put (cs := #[.int .i64 t385, .int .i64 0]) ?_ 1 _ rfl; (with_reducible repeat (first | refine blk_drewN ?_ _ | refine blk_drew ?_ | refine blk_alloc ?_ _)); refine blk_put (cs := #[.int .i64 0, .int .i64 0]) ?_ 0 _ rfl; exact zK) Try.underlying27 rfl (by kernel_rfl)) rfl ?_
        exact ⟨by first | rfl | (simp [errW_none, errW_some] <;> rfl) | (simp [*, errW_none, errW_some] <;> rfl), zB⟩
      · replace c9 := Bool.eq_false_iff.mpr c9
        subst c9
        have H1 : ((impl_common.f kj2 a1 a0_1).bind fun t387 => (if t387 = 0 then (none) else ((impl_upTo.f (wrap64 (Int.tdiv a1 t387)) 1000000000).bind fun t388 => (if t388 = true then ((impl_reduced.f kj2 (wrap64 (a0_0 * (wrap64 (Int.tdiv a1 t387)))) (wrap64 (Int.tdiv a0_1 t387))).bind fun bt389 => (some (bt389.1, bt389.2.1, bt389.2.2))) else ((impl_zero.f).bind fun bt392 => (some (bt392.1, bt392.2, false))))))) = some (r1, r2, r3) := by rw [if_neg (show ¬ (false = true) by decide)] at H; exact H
        clear H
        have H := H1
        clear H1
        replace H := Option.bind_eq_some_iff.mp H
        obtain ⟨t387, A140, H⟩ := H
        replace H : (if t387 = 0 then (none) else ((impl_upTo.f (wrap64 (Int.tdiv a1 t387)) 1000000000).bind fun t388 => (if t388 = true then ((impl_reduced.f kj2 (wrap64 (a0_0 * (wrap64 (Int.tdiv a1 t387)))) (wrap64 (Int.tdiv a0_1 t387))).bind fun bt389 => (some (bt389.1, bt389.2.1, bt389.2.2))) else ((impl_zero.f).bind fun bt392 => (some (bt392.1, bt392.2, false)))))) = some (r1, r2, r3) := H
        have A14 := Aside0.mk A140
        clear A140
        by_cases c15 : t387 = 0
        · rw [if_pos c15] at H
          exact absurd H (by simp)
        · rw [if_neg c15] at H
          have c15b0 : (t387 == 0) = false := beq_eq_false_iff_ne.mpr c15
          have c15b1 : (t387 != 0) = true := bne_iff_ne.mpr c15
          replace H := Option.bind_eq_some_iff.mp H
          obtain ⟨t388, A160, H⟩ := H
          replace H : (if t388 = true then ((impl_reduced.f kj2 (wrap64 (a0_0 * (wrap64 (Int.tdiv a1 t387)))) (wrap64 (Int.tdiv a0_1 t387))).bind fun bt389 => (some (bt389.1, bt389.2.1, bt389.2.2))) else ((impl_zero.f).bind fun bt392 => (some (bt392.1, bt392.2, false)))) = some (r1, r2, r3) := H
          have A16 := Aside0.mk A160
          clear A160
          by_cases c17 : t388 = true
          · subst c17
            have H1 : ((impl_reduced.f kj2 (wrap64 (a0_0 * (wrap64 (Int.tdiv a1 t387)))) (wrap64 (Int.tdiv a0_1 t387))).bind fun bt389 => (some (bt389.1, bt389.2.1, bt389.2.2))) = some (r1, r2, r3) := by rw [if_pos rfl] at H; exact H
            clear H
            have H := H1
            clear H1
            replace H := Option.bind_eq_some_iff.mp H
            obtain ⟨⟨t389, t390, t391⟩, A180, H⟩ := H
            replace H : (some (t389, t390, t391)) = some (r1, r2, r3) := H
            have A18 := Aside0.mk A180
            clear A180
            simp only [Option.some.injEq, Prod.mk.injEq] at H
            obtain ⟨rfl, rfl, rfl⟩ := H
            have hnb19 := NB383_384.out
            have hnc19 := NB384_383.out
            have hcz20_0 : wc.cell? ⟨gb383, 0, none⟩ = some (.int .i64 a0_0) := zE BK383
            have hcz20_1 : wc.cell? ⟨gb383, 1, none⟩ = some (.int .i64 a0_1) := zE BK383
            have hfz20_0 := blk_frozen BK383.out 0
            have hfz20_1 := blk_frozen BK383.out 1
            try go_wp2_with (first | ((with_reducible refine gate_callee (f := 158) rfl ?_); refine goesL_ (some 18) rfl rfl Try.func158 (by kernel_rfl) rfl #[.int .i64 a1, .int .i64 a0_1] rfl zM ?_; (with_reducible refine (impl_common.calls kj2 a1 a0_1 t387 _ A14.out).mono ?_); rintro e w21 ⟨rfl, hb⟩; refine ⟨_, rfl, ?_⟩; have n0_ := Aside0.mk (blk_below (g := gb383) (o := .cells #[.int .i64 a0_0, .int .i64 a0_1] 27 (0, 0)) zK hb); have n1_ := Aside0.mk (blk_below (g := gb384) (o := .cells #[.int .i64 0, .int .i64 0] 27 (0, 0)) zK hb); have n2_ := Aside0.mk (below_step zB hb); clear BK383; clear BK384; clear HB; have BK383 := n0_; have BK384 := n1_; have HB := n2_; clear n0_ n1_ n2_; (try clear hb); (try clear hb2); (try clear hk); (try clear hi)) | ((with_reducible refine gate_callee (f := 127) rfl ?_); refine goesL_ (some 22) rfl rfl Try.func127 (by kernel_rfl) rfl #[.int .i64 (wrap64 (Int.tdiv a1 t387)), .int .i64 1000000000] rfl zM ?_; (with_reducible refine (impl_upTo.calls (wrap64 (Int.tdiv a1 t387)) 1000000000 true _ A16.out).mono ?_); rintro e w' ⟨rfl, ⟨nd, rfl⟩⟩; refine ⟨_, rfl, ?_⟩; (try (rw [drewN_self w21]; generalize hq_ : World.drewN w21 _ = w21; have n0_ : Aside0 (w21.heap[gb383]? = some (.cells #[.int .i64 a0_0, .int .i64 a0_1] 27 (0, 0))) := ⟨by rw [← hq_]; exact zK⟩; have n1_ : Aside0 (w21.heap[gb384]? = some (.cells #[.int .i64 0, .int .i64 0] 27 (0, 0))) := ⟨by rw [← hq_]; exact zK⟩; have n2_ : Aside0 (Below w.heap.size w w21) := ⟨by rw [← hq_]; exact zB⟩; clear BK383 BK384 HB hq_; have BK383 := n0_; have BK384 := n1_; have HB := n2_; clear n0_ n1_ n2_))))
            have n0_ := Aside0.mk (blk_drew BK383.out)
            have n1_ := Aside0.mk (blk_drew BK384.out)
            have n2_ := Aside0.mk (below_drew1 HB.out)
            clear BK383
            clear BK384
            clear HB
            have BK383 := n0_
            have BK384 := n1_
            have HB := n2_
            clear n0_ n1_ n2_
            refine start_ (n := 15) (S := fun w' => w'.cell? ⟨gb383, 0, none⟩ = some (.int .i64 a0_0) ∧ w'.cell? ⟨gb383, 1, none⟩ = some (.int .i64 a0_1)) (ds := []) #[false, false, false, false, false, false, false, false, false, false, false, false, false, false, false] (by kernel_rfl) rfl rfl ⟨(blk_cell BK383.out 0).trans rfl, (blk_cell BK383.out 1).trans rfl⟩ (fun hHeld => ?_); refine with_tabW impl_Fraction_timesWhole.tab6 impl_Fraction_timesWhole.bits6 (fun HT_ HW_ => ?_)
            generalize w21.drew = w22 at BK383 BK384 HB hHeld ⊢
            refine zP 0 (N := some 25) (h := ?_)
            refine zP 2 (N := some 27) (h := ?_)
            refine zP 3 (N := some 28) (h := ?_)
            refine zP 4 (N := some 29) (h := ?_)
            refine zP 6 (N := some 31) (h := ?_)
            refine zP 8 (N := some 33) (h := ?_)
            refine zT 1 hHeld (N := some 26) (h := ?_)
            refine zP 5 (N := some 30) (h := ?_)
            refine zT 7 hHeld (N := some 32) (h := ?_)
            refine zP 9 (N := some 34) (h := ?_)
            refine one_ (i := 10) (N := some 35) #[true, true, true, true, true, true, true, true, true, true, true, false, false, false, false] rfl rfl (one_of HT_.out (by kernel_rfl)) (by decide) (fun K hK => ?_)
            refine goes_ Try.func159 (by kernel_rfl) rfl #[.int .i64 (wrap64 (a0_0 * (wrap64 (Int.tdiv a1 t387)))), .int .i64 (wrap64 (Int.tdiv a0_1 t387))] (by rfl) rfl rfl zM ?_
            with_reducible refine (impl_reduced.calls kj2 (wrap64 (a0_0 * (wrap64 (Int.tdiv a1 t387)))) (wrap64 (Int.tdiv a0_1 t387)) t389 t390 t391 _ A18.out).mono ?_
            rintro e w23 ⟨rfl, hb⟩
            refine ⟨_, rfl, ?_⟩
            have n0_ := Aside0.mk (blk_below (g := gb383) (o := .cells #[.int .i64 a0_0, .int .i64 a0_1] 27 (0, 0)) zK hb)
            have n1_ := Aside0.mk (blk_below (g := gb384) (o := .cells #[.int .i64 0, .int .i64 0] 27 (0, 0)) zK hb)
            have n2_ := Aside0.mk (below_step zB hb)
            clear BK383
            clear BK384
            clear HB
            have BK383 := n0_
            have BK384 := n1_
            have HB := n2_
            clear n0_ n1_ n2_
            (try clear hb)
            (try clear hb2)
            (try clear hk)
            (try clear hi)
            refine hK.out _ _ ⟨(blk_cell BK383.out 0).trans rfl, (blk_cell BK383.out 1).trans rfl⟩ (fun hHeld => ?_)
            clear hK K
            refine norm_ (a' := ?_) ?_ ?_
            rotate_left
            ·show Act.put _ (some 35) _ = _
             simp only [Act.put, List.setIfInBounds_toArray, List.set_cons_zero, List.set_cons_succ, i64_w, i32_w]
             rfl
            refine zP 11 (N := some 36) (h := ?_)
            refine zP 12 (N := some 37) (h := ?_)
            refine one_ (i := 13) (N := none) #[true, true, true, true, true, true, true, true, true, true, true, true, true, true, false] rfl rfl (one_of HT_.out (by kernel_rfl)) (by decide) (fun K hK => ?_)
            have hs24 : w23.cell? ⟨gb384, 0, none⟩ = some (.int .i64 0) := (blk_cell BK384.out 0).trans rfl
            have hfs24 := blk_frozen BK384.out 0
            have hns24_0 := NB383_384.out
            have hms24_0 := NB384_383.out
            have hs25 : w23.cell? ⟨gb384, 1, none⟩ = some (.int .i64 0) := (blk_cell BK384.out 1).trans rfl
            have hfs25 := blk_frozen BK384.out 1
            have hns25_0 := NB383_384.out
            have hms25_0 := NB384_383.out
            refine skip_ (w1 := ?_) (by rfl) rfl ?_ ?_
            rotate_left
            ·go_simp
             rfl
            refine hK.out _ _ ⟨((cell_far (p := ⟨gb384, _, none⟩) NB383_384.out _).trans (((cell_far (p := ⟨gb384, _, none⟩) NB383_384.out _).trans (hHeld.1)))), ((cell_far (p := ⟨gb384, _, none⟩) NB383_384.out _).trans (((cell_far (p := ⟨gb384, _, none⟩) NB383_384.out _).trans (hHeld.2))))⟩ (fun hHeld => ?_)
            clear hK K
            refine zP 14 (N := some 5) (h := ?_)
            refine done_ (done_of HT_.out (by kernel_rfl)) ?_
            try go_wp2
            refine bodyPost_ret (results_ct rfl _ _ gb384 27 #[.int .i64 t389, .int .i64 t390] (0, 0) _ rfl (by (with_reducible repeat (first | refine blk_drewN ?_ _ | refine blk_drew ?_ | refine blk_alloc ?_ _)); refine blk_put (cs := #[.int .i64 t389, .int .i64 0]) ?_ 1 _ rfl; (with_reducible repeat (first | refine blk_drewN ?_ _ | refine blk_drew ?_ | refine blk_alloc ?_ _)); refine blk_put (cs := #[.int .i64 0, .int .i64 0]) ?_ 0 _ rfl; exact zK) Try.underlying27 rfl (by kernel_rfl)) rfl ?_
            exact ⟨by first | rfl | (simp [errW_none, errW_some] <;> rfl) | (simp [*, errW_none, errW_some] <;> rfl), zB⟩
          · replace c17 := Bool.eq_false_iff.mpr c17
            subst c17
            have H1 : ((impl_zero.f).bind fun bt392 => (some (bt392.1, bt392.2, false))) = some (r1, r2, r3) := by rw [if_neg (show ¬ (false = true) by decide)] at H; exact H
            clear H
            have H := H1
            clear H1
            replace H := Option.bind_eq_some_iff.mp H
            obtain ⟨⟨t392, t393⟩, A260, H⟩ := H
            replace H : (some (t392, t393, false)) = some (r1, r2, r3) := H
            have A26 := Aside0.mk A260
            clear A260
            simp only [Option.some.injEq, Prod.mk.injEq] at H
            obtain ⟨rfl, rfl, rfl⟩ := H
            have hnb27 := NB383_384.out
            have hnc27 := NB384_383.out
            have hcz28_0 : wc.cell? ⟨gb383, 0, none⟩ = some (.int .i64 a0_0) := zE BK383
            have hcz28_1 : wc.cell? ⟨gb383, 1, none⟩ = some (.int .i64 a0_1) := zE BK383
            have hfz28_0 := blk_frozen BK383.out 0
            have hfz28_1 := blk_frozen BK383.out 1
            go_wp2_with (first | ((with_reducible refine gate_callee (f := 158) rfl ?_); refine goesL_ (some 18) rfl rfl Try.func158 (by kernel_rfl) rfl #[.int .i64 a1, .int .i64 a0_1] rfl zM ?_; (with_reducible refine (impl_common.calls kj2 a1 a0_1 t387 _ A14.out).mono ?_); rintro e w29 ⟨rfl, hb⟩; refine ⟨_, rfl, ?_⟩; have n0_ := Aside0.mk (blk_below (g := gb383) (o := .cells #[.int .i64 a0_0, .int .i64 a0_1] 27 (0, 0)) zK hb); have n1_ := Aside0.mk (blk_below (g := gb384) (o := .cells #[.int .i64 0, .int .i64 0] 27 (0, 0)) zK hb); have n2_ := Aside0.mk (below_step zB hb); clear BK383; clear BK384; clear HB; have BK383 := n0_; have BK384 := n1_; have HB := n2_; clear n0_ n1_ n2_; (try clear hb); (try clear hb2); (try clear hk); (try clear hi)) | ((with_reducible refine gate_callee (f := 127) rfl ?_); refine goesL_ (some 22) rfl rfl Try.func127 (by kernel_rfl) rfl #[.int .i64 (wrap64 (Int.tdiv a1 t387)), .int .i64 1000000000] rfl zM ?_; (with_reducible refine (impl_upTo.calls (wrap64 (Int.tdiv a1 t387)) 1000000000 false _ A16.out).mono ?_); rintro e w' ⟨rfl, ⟨nd, rfl⟩⟩; refine ⟨_, rfl, ?_⟩; (try (rw [drewN_self w29]; generalize hq_ : World.drewN w29 _ = w29; have n0_ : Aside0 (w29.heap[gb383]? = some (.cells #[.int .i64 a0_0, .int .i64 a0_1] 27 (0, 0))) := ⟨by rw [← hq_]; exact zK⟩; have n1_ : Aside0 (w29.heap[gb384]? = some (.cells #[.int .i64 0, .int .i64 0] 27 (0, 0))) := ⟨by rw [← hq_]; exact zK⟩; have n2_ : Aside0 (Below w.heap.size w w29) := ⟨by rw [← hq_]; exact zB⟩; clear BK383 BK384 HB hq_; have BK383 := n0_; have BK384 := n1_; have HB := n2_; clear n0_ n1_ n2_))) | ((with_reducible refine gate_callee (f := 131) rfl ?_); refine goesL_ (some 24) rfl rfl Try.func131 (by kernel_rfl) rfl #[] rfl zM ?_; (with_reducible refine (impl_zero.calls  t392 t393 _ A26.out).mono ?_); rintro e w30 ⟨rfl, hb⟩; refine ⟨_, rfl, ?_⟩; have n0_ := Aside0.mk (blk_below (g := gb383) (o := .cells #[.int .i64 a0_0, .int .i64 a0_1] 27 (0, 0)) zK hb); have n1_ := Aside0.mk (blk_below (g := gb384) (o := .cells #[.int .i64 0, .int .i64 0] 27 (0, 0)) zK hb); have n2_ := Aside0.mk (below_step zB hb); clear BK383; clear BK384; clear HB; have BK383 := n0_; have BK384 := n1_; have HB := n2_; clear n0_ n1_ n2_; (try clear hb); (try clear hb2); (try clear hk); (try clear hi); have hcz31_0 : w30.cell? ⟨gb384, 0, none⟩ = some (.int .i64 0) := zE BK384; have hcz31_1 : w30.cell? ⟨gb384, 1, none⟩ = some (.int .i64 0) := zE BK384; have hfz31_0 := blk_frozen BK384.out 0; have hfz31_1 := blk_frozen BK384.out 1))
            refine bodyPost_ret (results_ct rfl _ _ gb384 27 #[.int .i64 t392, .int .i64 t393] (0, 0) _ rfl (by (with_reducible repeat (first | refine blk_drewN ?_ _ | refine blk_drew ?_ | refine blk_alloc ?_ _)); refine blk_put (cs := #[.int .i64 t392, .int .i64 0]) ?_ 1 _ rfl; (with_reducible repeat (first | refine blk_drewN ?_ _ | refine blk_drew ?_ | refine blk_alloc ?_ _)); refine blk_put (cs := #[.int .i64 0, .int .i64 0]) ?_ 0 _ rfl; exact zK) Try.underlying27 rfl (by kernel_rfl)) rfl ?_
            exact ⟨by first | rfl | (simp [errW_none, errW_some] <;> rfl) | (simp [*, errW_none, errW_some] <;> rfl), zB⟩
/-! ### impl_Fraction_plus: function 115 -/
def impl_Fraction_plus.f (k : Nat) (a0_0 : Int) (a0_1 : Int) (a1_0 : Int) (a1_1 : Int) : Option (Int × Int × Bool) := (impl_reduced.f k (wrap64 ((wrap64 (a0_0 * a1_1)) + (wrap64 (a1_0 * a0_1)))) (wrap64 (a0_1 * a1_1))).bind fun bt397 => (some (bt397.1, bt397.2.1, bt397.2.2))
theorem impl_Fraction_plus.mono : ∀ a0 a1 a2 a3 k, LeO (impl_Fraction_plus.f k a0 a1 a2 a3) (impl_Fraction_plus.f (k + 1) a0 a1 a2 a3) := by
  intro a0 a1 a2 a3 k
  unfold impl_Fraction_plus.f
  repeat' first
      | (with_reducible exact impl_reduced.mono _ _ _)
      | (with_reducible exact LeO.refl _)
      | (with_reducible exact LeO.none _)
      | (with_reducible refine LeO.ite ?_ ?_)
      | (with_reducible refine LeO.bind ?_ (fun _ => ?_))
set_option maxHeartbeats 8000000 in
set_option maxRecDepth 100000 in
theorem impl_Fraction_plus.calls (k : Nat) (a0_0 : Int) (a0_1 : Int) (a1_0 : Int) (a1_1 : Int) (r1 : Int) (r2 : Int) (r3 : Bool) (w : World) (h : impl_Fraction_plus.f k a0_0 a0_1 a1_0 a1_1 = some (r1, r2, r3)) :
    Calls Try.prog 115 #[.agg #[.int .i64 a0_0, .int .i64 a0_1], .agg #[.int .i64 a1_0, .int .i64 a1_1]] w fun e w' => e = .returned (.tuple #[.agg #[.int .i64 r1, .int .i64 r2], .bool r3]) ∧ Below w.heap.size w w' := by
  have hu27 := Try.underlying27
  have HB := Aside0.mk (Below.refl w.heap.size w)
  have H : ((impl_reduced.f k (wrap64 ((wrap64 (a0_0 * a1_1)) + (wrap64 (a1_0 * a0_1)))) (wrap64 (a0_1 * a1_1))).bind fun bt397 => (some (bt397.1, bt397.2.1, bt397.2.2))) = some (r1, r2, r3) := h
  clear h
  replace H := Option.bind_eq_some_iff.mp H
  obtain ⟨⟨t397, t398, t399⟩, A30, H⟩ := H
  replace H : (some (t397, t398, t399)) = some (r1, r2, r3) := H
  have A3 := Aside0.mk A30
  clear A30
  simp only [Option.some.injEq, Prod.mk.injEq] at H
  obtain ⟨rfl, rfl, rfl⟩ := H
  go_enter Try.func115, Try.ntmps115
  go_wp2_with (first | ((with_reducible refine gate_dst (N := 2) rfl ?_); refine box_event ?hg (N := 2) ?hd (cs := #[.int .i64 a0_0, .int .i64 a0_1]) (t := 27) ?hr ?_; (case hd => rfl); (case hg => rfl); (case hr => first | (go_simp; done) | (go_simp; rfl)); intro gb394 hg w4 hbox hb; have n0_ := Aside0.mk (below_step zB hb); have n1_ := Aside0.mk (hbox); have n2_ := Aside0.mk (zG : w.heap.size ≤ gb394); have n3_ := Aside0.mk (zG : w.heap.size ≤ gb394); clear HB; have HB := n0_; have BK394 := n1_; have GW394 := n2_; have GE394 := n3_; clear n0_ n1_ n2_ n3_; clear hb hbox hg) | ((with_reducible refine gate_dst (N := 3) rfl ?_); refine box_event ?hg (N := 3) ?hd (cs := #[.int .i64 a1_0, .int .i64 a1_1]) (t := 27) ?hr ?_; (case hd => rfl); (case hg => rfl); (case hr => first | (go_simp; done) | (go_simp; rfl)); intro gb395 hg w5 hbox hb; have n0_ := Aside0.mk (blk_below (g := gb394) (o := .cells #[.int .i64 a0_0, .int .i64 a0_1] 27 (0, 0)) zK hb); have n1_ := Aside0.mk (below_step zB hb); have n2_ := Aside0.mk (hbox); have n3_ := Aside0.mk (zG : w.heap.size ≤ gb395); have n4_ := Aside0.mk (zG : w.heap.size ≤ gb395); have n5_ := Aside0.mk ((by rw [hg]; exact Nat.ne_of_lt (blk_lt (g := gb394) (o := .cells #[.int .i64 a0_0, .int .i64 a0_1] 27 (0, 0)) zK) : gb394 ≠ gb395)); have n6_ := Aside0.mk ((by rw [hg]; exact Nat.ne_of_gt (blk_lt (g := gb394) (o := .cells #[.int .i64 a0_0, .int .i64 a0_1] 27 (0, 0)) zK) : gb395 ≠ gb394)); clear BK394; clear HB; have BK394 := n0_; have HB := n1_; have BK395 := n2_; have GW395 := n3_; have GE395 := n4_; have NB394_395 := n5_; have NB395_394 := n6_; clear n0_ n1_ n2_ n3_ n4_ n5_ n6_; clear hb hbox hg) | ((with_reducible refine gate_dst (N := 4) rfl ?_); refine box_event ?hg (N := 4) ?hd (cs := #[.int .i64 0, .int .i64 0]) (t := 27) ?hr ?_; (case hd => rfl); (case hg => rfl); (case hr => first | (go_simp; done) | (go_simp; rfl)); intro gb396 hg w6 hbox hb; have n0_ := Aside0.mk (blk_below (g := gb394) (o := .cells #[.int .i64 a0_0, .int .i64 a0_1] 27 (0, 0)) zK hb); have n1_ := Aside0.mk (blk_below (g := gb395) (o := .cells #[.int .i64 a1_0, .int .i64 a1_1] 27 (0, 0)) zK hb); have n2_ := Aside0.mk (below_step zB hb); have n3_ := Aside0.mk (hbox); have n4_ := Aside0.mk (zG : w.heap.size ≤ gb396); have n5_ := Aside0.mk (zG : w.heap.size ≤ gb396); have n6_ := Aside0.mk ((by rw [hg]; exact Nat.ne_of_lt (blk_lt (g := gb394) (o := .cells #[.int .i64 a0_0, .int .i64 a0_1] 27 (0, 0)) zK) : gb394 ≠ gb396)); have n7_ := Aside0.mk ((by rw [hg]; exact Nat.ne_of_gt (blk_lt (g := gb394) (o := .cells #[.int .i64 a0_0, .int .i64 a0_1] 27 (0, 0)) zK) : gb396 ≠ gb394)); have n8_ := Aside0.mk ((by rw [hg]; exact Nat.ne_of_lt (blk_lt (g := gb395) (o := .cells #[.int .i64 a1_0, .int .i64 a1_1] 27 (0, 0)) zK) : gb395 ≠ gb396)); have n9_ := Aside0.mk ((by rw [hg]; exact Nat.ne_of_gt (blk_lt (g := gb395) (o := .cells #[.int .i64 a1_0, .int .i64 a1_1] 27 (0, 0)) zK) : gb396 ≠ gb395)); clear BK394; clear BK395; clear HB; have BK394 := n0_; have BK395 := n1_; have HB := n2_; have BK396 := n3_; have GW396 := n4_; have GE396 := n5_; have NB394_396 := n6_; have NB396_394 := n7_; have NB395_396 := n8_; have NB396_395 := n9_; clear n0_ n1_ n2_ n3_ n4_ n5_ n6_ n7_ n8_ n9_; clear hb hbox hg; have hnb7 := NB394_395.out; have hnc7 := NB395_394.out; have hnb8 := NB394_396.out; have hnc8 := NB396_394.out; have hcz9_0 : w6.cell? ⟨gb394, 0, none⟩ = some (.int .i64 a0_0) := zE BK394; have hcz9_1 : w6.cell? ⟨gb394, 1, none⟩ = some (.int .i64 a0_1) := zE BK394; have hfz9_0 := blk_frozen BK394.out 0; have hfz9_1 := blk_frozen BK394.out 1; have hnb10 := NB395_396.out; have hnc10 := NB396_395.out; have hcz11_0 : w6.cell? ⟨gb395, 0, none⟩ = some (.int .i64 a1_0) := zE BK395; have hcz11_1 : w6.cell? ⟨gb395, 1, none⟩ = some (.int .i64 a1_1) := zE BK395; have hfz11_0 := blk_frozen BK395.out 0; have hfz11_1 := blk_frozen BK395.out 1) | ((with_reducible refine gate_callee (f := 159) rfl ?_); refine goesL_ (some 22) rfl rfl Try.func159 (by kernel_rfl) rfl #[.int .i64 (wrap64 ((wrap64 (a0_0 * a1_1)) + (wrap64 (a1_0 * a0_1)))), .int .i64 (wrap64 (a0_1 * a1_1))] rfl zM ?_; (with_reducible refine (impl_reduced.calls k (wrap64 ((wrap64 (a0_0 * a1_1)) + (wrap64 (a1_0 * a0_1)))) (wrap64 (a0_1 * a1_1)) t397 t398 t399 _ A3.out).mono ?_); rintro e w12 ⟨rfl, hb⟩; refine ⟨_, rfl, ?_⟩; have n0_ := Aside0.mk (blk_below (g := gb394) (o := .cells #[.int .i64 a0_0, .int .i64 a0_1] 27 (0, 0)) zK hb); have n1_ := Aside0.mk (blk_below (g := gb395) (o := .cells #[.int .i64 a1_0, .int .i64 a1_1] 27 (0, 0)) zK hb); have n2_ := Aside0.mk (blk_below (g := gb396) (o := .cells #[.int .i64 0, .int .i64 0] 27 (0, 0)) zK hb); have n3_ := Aside0.mk (below_step zB hb); clear BK394; clear BK395; clear BK396; clear HB; have BK394 := n0_; have BK395 := n1_; have BK396 := n2_; have HB := n3_; clear n0_ n1_ n2_ n3_; (try clear hb); (try clear hb2); (try clear hk); (try clear hi); have hcz13_0 : w12.cell? ⟨gb396, 0, none⟩ = some (.int .i64 0) := zE BK396; have hcz13_1 : w12.cell? ⟨gb396, 1, none⟩ = some (.int .i64 0) := zE BK396; have hfz13_0 := blk_frozen BK396.out 0; have hfz13_1 := blk_frozen BK396.out 1))
  refine bodyPost_ret (results_ct rfl _ _ gb396 27 #[.int .i64 t397, .int .i64 t398] (0, 0) _ rfl (by (with_reducible repeat (first | refine blk_drewN ?_ _ | refine blk_drew ?_ | refine blk_alloc ?_ _)); refine blk_put (cs := #[.int .i64 t397, .int .i64 0]) ?_ 1 _ rfl; (with_reducible repeat (first | refine blk_drewN ?_ _ | refine blk_drew ?_ | refine blk_alloc ?_ _)); refine blk_put (cs := #[.int .i64 0, .int .i64 0]) ?_ 0 _ rfl; exact zK) Try.underlying27 rfl (by kernel_rfl)) rfl ?_
  exact ⟨by first | rfl | (simp [errW_none, errW_some] <;> rfl) | (simp [*, errW_none, errW_some] <;> rfl), zB⟩
end Go.Proofs.Ytcklefgkbddlhaa.P
