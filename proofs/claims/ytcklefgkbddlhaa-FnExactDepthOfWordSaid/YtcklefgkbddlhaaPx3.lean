/- What a call of each Go function named below comes to is what the plain Lean function beside it says. Made by a program of this session out of the print of the translation; Lean checks it. -/
import Derived.Test.YtcklefgkbddlhaaPx0
import Derived.Test.YtcklefgkbddlhaaPx2
namespace Go.Proofs.Ytcklefgkbddlhaa.P
open Go.RowKit Go.Proofs.YtcklefgkbddlhaaW.PrintWords Go.Proofs.YtcklefgkbddlhaaW.PrintLast Go.Proofs.YtcklefgkbddlhaaW.PrintMore
attribute [local go_sem] max2_int min2_int max_two min_two max_three min_three max_four min_four   -- for this text's walks alone
set_option linter.unusedVariables false
set_option linter.unusedSimpArgs false


/-! ### spec_l01Frac: function 129 -/
def spec_l01Frac.f (k : Nat) (a0 : Int) (a1 : Int) : Option (Int × Int × Bool) := if a1 = 0 then (some (0, 0, false)) else ((spec_l01Gcd.f k a0 a1).bind fun t126 => (if a1 < 0 then (if (wrap64 (-t126)) = 0 then (none) else ((spec_l01IsFrac.f k (wrap64 (Int.tdiv a0 (wrap64 (-t126)))) (wrap64 (Int.tdiv a1 (wrap64 (-t126))))).bind fun t128 => (if t128 = true then (some (wrap64 (Int.tdiv a0 (wrap64 (-t126))), wrap64 (Int.tdiv a1 (wrap64 (-t126))), true)) else (some (0, 0, false))))) else (if t126 = 0 then (none) else ((spec_l01IsFrac.f k (wrap64 (Int.tdiv a0 t126)) (wrap64 (Int.tdiv a1 t126))).bind fun t130 => (if t130 = true then (some (wrap64 (Int.tdiv a0 t126), wrap64 (Int.tdiv a1 t126), true)) else (some (0, 0, false)))))))
theorem spec_l01Frac.mono : ∀ a0 a1 k, LeO (spec_l01Frac.f k a0 a1) (spec_l01Frac.f (k + 1) a0 a1) := by
  intro a0 a1 k
  unfold spec_l01Frac.f
  repeat' first
      | (with_reducible exact spec_l01Gcd.mono _ _ _)
      | (with_reducible exact spec_l01IsFrac.mono _ _ _)
      | (with_reducible exact LeO.refl _)
      | (with_reducible exact LeO.none _)
      | (with_reducible refine LeO.ite ?_ ?_)
      | (with_reducible refine LeO.bind ?_ (fun _ => ?_))
def spec_l01Frac.T6 : Bool × List (List Nat × List Nat) := (true, [([], []), ([], []), ([0, 1], [0, 1]), ([], []), ([], []), ([3, 4], [3, 4]), ([2, 5], [2, 5]), ([], []), ([7, 6, 0, 1, 2, 3, 4, 5, 6, 7], [6, 7])])
def spec_l01Frac.B6 : List Nat := [0, 0, 3, 0, 0, 24, 63, 0, 255]
theorem spec_l01Frac.tab6 : rtab .any (opsOf Try.f129 6) = spec_l01Frac.T6 := by kernel_rfl
theorem spec_l01Frac.bits6 : waitsOk spec_l01Frac.T6.2 spec_l01Frac.B6 = true := by kernel_rfl
set_option maxHeartbeats 8000000 in
set_option maxRecDepth 100000 in
theorem spec_l01Frac.calls (k : Nat) (a0 : Int) (a1 : Int) (r1 : Int) (r2 : Int) (r3 : Bool) (w : World) (h : spec_l01Frac.f k a0 a1 = some (r1, r2, r3)) :
    Calls Try.prog 129 #[.int .i64 a0, .int .i64 a1] w fun e w' => e = .returned (.tuple #[.agg #[.int .i64 r1, .int .i64 r2], .bool r3]) ∧ Below w.heap.size w w' := by
  have hu27 := Try.underlying27
  have HB := Aside0.mk (Below.refl w.heap.size w)
  have H : (if a1 = 0 then (some (0, 0, false)) else ((spec_l01Gcd.f k a0 a1).bind fun t126 => (if a1 < 0 then (if (wrap64 (-t126)) = 0 then (none) else ((spec_l01IsFrac.f k (wrap64 (Int.tdiv a0 (wrap64 (-t126)))) (wrap64 (Int.tdiv a1 (wrap64 (-t126))))).bind fun t128 => (if t128 = true then (some (wrap64 (Int.tdiv a0 (wrap64 (-t126))), wrap64 (Int.tdiv a1 (wrap64 (-t126))), true)) else (some (0, 0, false))))) else (if t126 = 0 then (none) else ((spec_l01IsFrac.f k (wrap64 (Int.tdiv a0 t126)) (wrap64 (Int.tdiv a1 t126))).bind fun t130 => (if t130 = true then (some (wrap64 (Int.tdiv a0 t126), wrap64 (Int.tdiv a1 t126), true)) else (some (0, 0, false)))))))) = some (r1, r2, r3) := h
  clear h
  by_cases c3 : a1 = 0
  · rw [if_pos c3] at H
    have c3b0 : (a1 == 0) = true := beq_iff_eq.mpr c3
    have c3b1 : (a1 != 0) = false := bne_eq_false_iff_eq.mpr c3
    clear c3
    simp only [Option.some.injEq, Prod.mk.injEq] at H
    obtain ⟨rfl, rfl, rfl⟩ := H
    go_enter Try.func129, Try.ntmps129
    go_wp2_with (first | ((with_reducible refine gate_dst (N := 4) rfl ?_); refine box_event ?hg (N := 4) ?hd (cs := #[.int .i64 0, .int .i64 0]) (t := 27) ?hr ?_; (case hd => rfl); (case hg => rfl); (case hr => first | (go_simp; done) | (go_simp; rfl)); intro gb125 hg w4 hbox hb; have n0_ := Aside0.mk (below_step zB hb); have n1_ := Aside0.mk (hbox); have n2_ := Aside0.mk (zG : w.heap.size ≤ gb125); have n3_ := Aside0.mk (zG : w.heap.size ≤ gb125); clear HB; have HB := n0_; have BK125 := n1_; have GW125 := n2_; have GE125 := n3_; clear n0_ n1_ n2_ n3_; clear hb hbox hg; have hcz5_0 : w4.cell? ⟨gb125, 0, none⟩ = some (.int .i64 0) := zE BK125; have hcz5_1 : w4.cell? ⟨gb125, 1, none⟩ = some (.int .i64 0) := zE BK125; have hfz5_0 := blk_frozen BK125.out 0; have hfz5_1 := blk_frozen BK125.out 1))
    refine bodyPost_ret (results_ct rfl _ _ gb125 27 #[.int .i64 0, .int .i64 0] (0, 0) _ rfl (by (with_reducible repeat (first | refine blk_drewN ?_ _ | refine blk_drew ?_ | refine blk_alloc ?_ _)); refine blk_put (cs := #[.int .i64 0, .int .i64 0]) ?_ 1 _ rfl; (with_reducible repeat (first | refine blk_drewN ?_ _ | refine blk_drew ?_ | refine blk_alloc ?_ _)); refine blk_put (cs := #[.int .i64 0, .int .i64 0]) ?_ 0 _ rfl; exact zK) Try.underlying27 rfl (by kernel_rfl)) rfl ?_
    exact ⟨by first | rfl | (simp [errW_none, errW_some] <;> rfl) | (simp [*, errW_none, errW_some] <;> rfl), zB⟩
  · rw [if_neg c3] at H
    have c3b0 : (a1 == 0) = false := beq_eq_false_iff_ne.mpr c3
    have c3b1 : (a1 != 0) = true := bne_iff_ne.mpr c3
    replace H := Option.bind_eq_some_iff.mp H
    obtain ⟨t126, A60, H⟩ := H
    replace H : (if a1 < 0 then (if (wrap64 (-t126)) = 0 then (none) else ((spec_l01IsFrac.f k (wrap64 (Int.tdiv a0 (wrap64 (-t126)))) (wrap64 (Int.tdiv a1 (wrap64 (-t126))))).bind fun t128 => (if t128 = true then (some (wrap64 (Int.tdiv a0 (wrap64 (-t126))), wrap64 (Int.tdiv a1 (wrap64 (-t126))), true)) else (some (0, 0, false))))) else (if t126 = 0 then (none) else ((spec_l01IsFrac.f k (wrap64 (Int.tdiv a0 t126)) (wrap64 (Int.tdiv a1 t126))).bind fun t130 => (if t130 = true then (some (wrap64 (Int.tdiv a0 t126), wrap64 (Int.tdiv a1 t126), true)) else (some (0, 0, false)))))) = some (r1, r2, r3) := H
    have A6 := Aside0.mk A60
    clear A60
    by_cases c7 : a1 < 0
    · rw [if_pos c7] at H
      have c7b0 : decide (a1 < 0) = true := decide_eq_true c7
      clear c7
      by_cases c8 : (wrap64 (-t126)) = 0
      · rw [if_pos c8] at H
        exact absurd H (by simp)
      · rw [if_neg c8] at H
        have c8b0 : ((wrap64 (-t126)) == 0) = false := beq_eq_false_iff_ne.mpr c8
        have c8b1 : ((wrap64 (-t126)) != 0) = true := bne_iff_ne.mpr c8
        replace H := Option.bind_eq_some_iff.mp H
        obtain ⟨t128, A90, H⟩ := H
        replace H : (if t128 = true then (some (wrap64 (Int.tdiv a0 (wrap64 (-t126))), wrap64 (Int.tdiv a1 (wrap64 (-t126))), true)) else (some (0, 0, false))) = some (r1, r2, r3) := H
        have A9 := Aside0.mk A90
        clear A90
        by_cases c10 : t128 = true
        · subst c10
          have H1 : (some (wrap64 (Int.tdiv a0 (wrap64 (-t126))), wrap64 (Int.tdiv a1 (wrap64 (-t126))), true)) = some (r1, r2, r3) := by rw [if_pos rfl] at H; exact H
          clear H
          have H := H1
          clear H1
          simp only [Option.some.injEq, Prod.mk.injEq] at H
          obtain ⟨rfl, rfl, rfl⟩ := H
          go_enter Try.func129, Try.ntmps129
          try go_wp2_with (first | ((with_reducible refine gate_dst (N := 4) rfl ?_); refine box_event ?hg (N := 4) ?hd (cs := #[.int .i64 0, .int .i64 0]) (t := 27) ?hr ?_; (case hd => rfl); (case hg => rfl); (case hr => first | (go_simp; done) | (go_simp; rfl)); intro gb125 hg w11 hbox hb; have n0_ := Aside0.mk (below_step zB hb); have n1_ := Aside0.mk (hbox); have n2_ := Aside0.mk (zG : w.heap.size ≤ gb125); have n3_ := Aside0.mk (zG : w.heap.size ≤ gb125); clear HB; have HB := n0_; have BK125 := n1_; have GW125 := n2_; have GE125 := n3_; clear n0_ n1_ n2_ n3_; clear hb hbox hg) | ((with_reducible refine gate_callee (f := 145) rfl ?_); refine goesL_ (some 13) rfl rfl Try.func145 (by kernel_rfl) rfl #[.int .i64 a0, .int .i64 a1] rfl zM ?_; (with_reducible refine (spec_l01Gcd.calls k a0 a1 t126 _ A6.out).mono ?_); rintro e w12 ⟨rfl, hb⟩; refine ⟨_, rfl, ?_⟩; have n0_ := Aside0.mk (blk_below (g := gb125) (o := .cells #[.int .i64 0, .int .i64 0] 27 (0, 0)) zK hb); have n1_ := Aside0.mk (below_step zB hb); clear BK125; clear HB; have BK125 := n0_; have HB := n1_; clear n0_ n1_; (try clear hb); (try clear hb2); (try clear hk); (try clear hi)))
          have n0_ := Aside0.mk (blk_drew BK125.out)
          have n1_ := Aside0.mk (below_drew1 HB.out)
          clear BK125
          clear HB
          have BK125 := n0_
          have HB := n1_
          clear n0_ n1_
          refine start_ (n := 9) (S := fun w' => True) (ds := []) #[false, false, false, false, false, false, false, false, false] (by kernel_rfl) rfl rfl trivial (fun hHeld => ?_); refine with_tabW spec_l01Frac.tab6 spec_l01Frac.bits6 (fun HT_ HW_ => ?_)
          generalize w12.drew = w13 at BK125 HB hHeld ⊢
          refine zP 0 (N := some 18) (h := ?_)
          refine zP 1 (N := some 19) (h := ?_)
          refine zP 2 (N := some 20) (h := ?_)
          refine zP 3 (N := some 21) (h := ?_)
          refine zP 4 (N := some 22) (h := ?_)
          refine zP 5 (N := some 23) (h := ?_)
          refine zP 6 (N := some 24) (h := ?_)
          refine one_ (i := 7) (N := some 7) #[true, true, true, true, true, true, true, true, false] rfl rfl (one_of HT_.out (by kernel_rfl)) (by decide) (fun K hK => ?_)
          refine box_step ?hg (N := 7) ?hd (cs := #[.int .i64 0, .int .i64 0]) (t := 27) ?hr ?_; (case hd => rfl); (case hg => rfl); (case hr => first | (go_simp; done) | (go_simp; rfl))
          intro gb127 hg w14 hbox hb
          have n0_ := Aside0.mk (blk_below (g := gb125) (o := .cells #[.int .i64 0, .int .i64 0] 27 (0, 0)) zK hb)
          have n1_ := Aside0.mk (below_step zB hb)
          have n2_ := Aside0.mk (hbox)
          have n3_ := Aside0.mk (zG : w.heap.size ≤ gb127)
          have n4_ := Aside0.mk (zG : w.heap.size ≤ gb127)
          have n5_ := Aside0.mk ((by rw [hg]; exact Nat.ne_of_lt (blk_lt (g := gb125) (o := .cells #[.int .i64 0, .int .i64 0] 27 (0, 0)) zK) : gb125 ≠ gb127))
          have n6_ := Aside0.mk ((by rw [hg]; exact Nat.ne_of_gt (blk_lt (g := gb125) (o := .cells #[.int .i64 0, .int .i64 0] 27 (0, 0)) zK) : gb127 ≠ gb125))
          clear BK125
          clear HB
          have BK125 := n0_
          have HB := n1_
          have BK127 := n2_
          have GW127 := n3_
          have GE127 := n4_
          have NB125_127 := n5_
          have NB127_125 := n6_
          clear n0_ n1_ n2_ n3_ n4_ n5_ n6_
          clear hb hbox hg
          refine hK.out _ _ trivial (fun hHeld => ?_)
          clear hK K
          refine norm_ (a' := ?_) ?_ ?_
          rotate_left
          · show Act.put _ (some 7) _ = _
            simp only [Act.put, List.setIfInBounds_toArray, List.set_cons_zero, List.set_cons_succ, i64_w, i32_w]
            rfl
          refine one_ (i := 8) (N := none) #[true, true, true, true, true, true, true, true, true] rfl rfl (one_of HT_.out (by kernel_rfl)) (by decide) (fun K hK => ?_)
          have hs15 : w14.cell? ⟨gb127, 0, none⟩ = some (.int .i64 0) := (blk_cell BK127.out 0).trans rfl
          have hfs15 := blk_frozen BK127.out 0
          have hns15_0 := NB125_127.out
          have hms15_0 := NB127_125.out
          have hs16 : w14.cell? ⟨gb127, 1, none⟩ = some (.int .i64 0) := (blk_cell BK127.out 1).trans rfl
          have hfs16 := blk_frozen BK127.out 1
          have hns16_0 := NB125_127.out
          have hms16_0 := NB127_125.out
          refine skip_ (w1 := ?_) (by rfl) rfl ?_ ?_
          rotate_left
          · go_simp
            rfl
          refine hK.out _ _ trivial (fun hHeld => ?_)
          clear hK K
          refine done_ (done_of HT_.out (by kernel_rfl)) ?_
          have hnb17 := NB127_125.out
          have hnc17 := NB125_127.out
          have hcz18_0 : w14.cell? ⟨gb127, 0, none⟩ = some (.int .i64 0) := zE BK127
          have hcz18_1 : w14.cell? ⟨gb127, 1, none⟩ = some (.int .i64 0) := zE BK127
          have hfz18_0 := blk_frozen BK127.out 0
          have hfz18_1 := blk_frozen BK127.out 1
          try go_wp2_with (first | ((with_reducible refine gate_callee (f := 103) rfl ?_); refine goesL_ (some 26) rfl rfl Try.func103 (by kernel_rfl) rfl #[.agg #[.int .i64 (wrap64 (Int.tdiv a0 (wrap64 (-t126)))), .int .i64 (wrap64 (Int.tdiv a1 (wrap64 (-t126))))]] rfl zM ?_; (with_reducible refine (spec_l01IsFrac.calls k (wrap64 (Int.tdiv a0 (wrap64 (-t126)))) (wrap64 (Int.tdiv a1 (wrap64 (-t126)))) true _ A9.out).mono ?_); rintro e w19 ⟨rfl, hb⟩; refine ⟨_, rfl, ?_⟩; have n0_ := Aside0.mk (blk_below (g := gb125) (o := .cells #[.int .i64 0, .int .i64 0] 27 (0, 0)) (by (with_reducible repeat (first | refine blk_drewN ?_ _ | refine blk_drew ?_ | refine blk_alloc ?_ _)); refine blk_far ?_ NB125_127.out _; (with_reducible repeat (first | refine blk_drewN ?_ _ | refine blk_drew ?_ | refine blk_alloc ?_ _)); refine blk_far ?_ NB125_127.out _; exact zK) hb); have n1_ := Aside0.mk (blk_below (g := gb127) (o := .cells #[.int .i64 (wrap64 (Int.tdiv a0 (wrap64 (-t126)))), .int .i64 (wrap64 (Int.tdiv a1 (wrap64 (-t126))))] 27 (0, 0)) (by (with_reducible repeat (first | refine blk_drewN ?_ _ | refine blk_drew ?_ | refine blk_alloc ?_ _)); refine blk_put (cs := #[.int .i64 (wrap64 (Int.tdiv a0 (wrap64 (-t126)))), .int .i64 0]) ?_ 1 _ rfl; (with_reducible repeat (first | refine blk_drewN ?_ _ | refine blk_drew ?_ | refine blk_alloc ?_ _)); refine blk_put (cs := #[.int .i64 0, .int .i64 0]) ?_ 0 _ rfl; exact zK) hb); have n2_ := Aside0.mk (below_step zB hb); clear BK125; clear BK127; clear HB; have BK125 := n0_; have BK127 := n1_; have HB := n2_; clear n0_ n1_ n2_; (try clear hb); (try clear hb2); (try clear hk); (try clear hi); have hcz20_0 : w19.cell? ⟨gb127, 0, none⟩ = some (.int .i64 (wrap64 (Int.tdiv a0 (wrap64 (-t126))))) := zE BK127; have hcz20_1 : w19.cell? ⟨gb127, 1, none⟩ = some (.int .i64 (wrap64 (Int.tdiv a1 (wrap64 (-t126))))) := zE BK127; have hfz20_0 := blk_frozen BK127.out 0; have hfz20_1 := blk_frozen BK127.out 1; have hcz21_0 : w19.cell? ⟨gb125, 0, none⟩ = some (.int .i64 0) := zE BK125; have hcz21_1 : w19.cell? ⟨gb125, 1, none⟩ = some (.int .i64 0) := zE BK125; have hfz21_0 := blk_frozen BK125.out 0; have hfz21_1 := blk_frozen BK125.out 1))
          refine bodyPost_ret (results_ct rfl _ _ gb125 27 #[.int .i64 (wrap64 (Int.tdiv a0 (wrap64 (-t126)))), .int .i64 (wrap64 (Int.tdiv a1 (wrap64 (-t126))))] (0, 0) _ rfl (by (with_reducible repeat (first | refine blk_drewN ?_ _ | refine blk_drew ?_ | refine blk_alloc ?_ _)); refine blk_put (cs := #[.int .i64 (wrap64 (Int.tdiv a0 (wrap64 (-t126)))), .int .i64 0]) ?_ 1 _ rfl; (with_reducible repeat (first | refine blk_drewN ?_ _ | refine blk_drew ?_ | refine blk_alloc ?_ _)); refine blk_put (cs := #[.int .i64 0, .int .i64 0]) ?_ 0 _ rfl; exact zK) Try.underlying27 rfl (by kernel_rfl)) rfl ?_
          exact ⟨by first | rfl | (simp [errW_none, errW_some] <;> rfl) | (simp [*, errW_none, errW_some] <;> rfl), zB⟩
        · replace c10 := Bool.eq_false_iff.mpr c10
          subst c10
          have H1 : (some (0, 0, false)) = some (r1, r2, r3) := by rw [if_neg (show ¬ (false = true) by decide)] at H; exact H
          clear H
          have H := H1
          clear H1
          simp only [Option.some.injEq, Prod.mk.injEq] at H
          obtain ⟨rfl, rfl, rfl⟩ := H
          go_enter Try.func129, Try.ntmps129
          try go_wp2_with (first | ((with_reducible refine gate_dst (N := 4) rfl ?_); refine box_event ?hg (N := 4) ?hd (cs := #[.int .i64 0, .int .i64 0]) (t := 27) ?hr ?_; (case hd => rfl); (case hg => rfl); (case hr => first | (go_simp; done) | (go_simp; rfl)); intro gb125 hg w22 hbox hb; have n0_ := Aside0.mk (below_step zB hb); have n1_ := Aside0.mk (hbox); have n2_ := Aside0.mk (zG : w.heap.size ≤ gb125); have n3_ := Aside0.mk (zG : w.heap.size ≤ gb125); clear HB; have HB := n0_; have BK125 := n1_; have GW125 := n2_; have GE125 := n3_; clear n0_ n1_ n2_ n3_; clear hb hbox hg) | ((with_reducible refine gate_callee (f := 145) rfl ?_); refine goesL_ (some 13) rfl rfl Try.func145 (by kernel_rfl) rfl #[.int .i64 a0, .int .i64 a1] rfl zM ?_; (with_reducible refine (spec_l01Gcd.calls k a0 a1 t126 _ A6.out).mono ?_); rintro e w23 ⟨rfl, hb⟩; refine ⟨_, rfl, ?_⟩; have n0_ := Aside0.mk (blk_below (g := gb125) (o := .cells #[.int .i64 0, .int .i64 0] 27 (0, 0)) zK hb); have n1_ := Aside0.mk (below_step zB hb); clear BK125; clear HB; have BK125 := n0_; have HB := n1_; clear n0_ n1_; (try clear hb); (try clear hb2); (try clear hk); (try clear hi)))
          have n0_ := Aside0.mk (blk_drew BK125.out)
          have n1_ := Aside0.mk (below_drew1 HB.out)
          clear BK125
          clear HB
          have BK125 := n0_
          have HB := n1_
          clear n0_ n1_
          refine start_ (n := 9) (S := fun w' => True) (ds := []) #[false, false, false, false, false, false, false, false, false] (by kernel_rfl) rfl rfl trivial (fun hHeld => ?_); refine with_tabW spec_l01Frac.tab6 spec_l01Frac.bits6 (fun HT_ HW_ => ?_)
          generalize w23.drew = w24 at BK125 HB hHeld ⊢
          refine zP 0 (N := some 18) (h := ?_)
          refine zP 1 (N := some 19) (h := ?_)
          refine zP 2 (N := some 20) (h := ?_)
          refine zP 3 (N := some 21) (h := ?_)
          refine zP 4 (N := some 22) (h := ?_)
          refine zP 5 (N := some 23) (h := ?_)
          refine zP 6 (N := some 24) (h := ?_)
          refine one_ (i := 7) (N := some 7) #[true, true, true, true, true, true, true, true, false] rfl rfl (one_of HT_.out (by kernel_rfl)) (by decide) (fun K hK => ?_)
          refine box_step ?hg (N := 7) ?hd (cs := #[.int .i64 0, .int .i64 0]) (t := 27) ?hr ?_; (case hd => rfl); (case hg => rfl); (case hr => first | (go_simp; done) | (go_simp; rfl))
          intro gb127 hg w25 hbox hb
          have n0_ := Aside0.mk (blk_below (g := gb125) (o := .cells #[.int .i64 0, .int .i64 0] 27 (0, 0)) zK hb)
          have n1_ := Aside0.mk (below_step zB hb)
          have n2_ := Aside0.mk (hbox)
          have n3_ := Aside0.mk (zG : w.heap.size ≤ gb127)
          have n4_ := Aside0.mk (zG : w.heap.size ≤ gb127)
          have n5_ := Aside0.mk ((by rw [hg]; exact Nat.ne_of_lt (blk_lt (g := gb125) (o := .cells #[.int .i64 0, .int .i64 0] 27 (0, 0)) zK) : gb125 ≠ gb127))
          have n6_ := Aside0.mk ((by rw [hg]; exact Nat.ne_of_gt (blk_lt (g := gb125) (o := .cells #[.int .i64 0, .int .i64 0] 27 (0, 0)) zK) : gb127 ≠ gb125))
          clear BK125
          clear HB
          have BK125 := n0_
          have HB := n1_
          have BK127 := n2_
          have GW127 := n3_
          have GE127 := n4_
          have NB125_127 := n5_
          have NB127_125 := n6_
          clear n0_ n1_ n2_ n3_ n4_ n5_ n6_
          clear hb hbox hg
          refine hK.out _ _ trivial (fun hHeld => ?_)
          clear hK K
          refine norm_ (a' := ?_) ?_ ?_
          rotate_left
          · show Act.put _ (some 7) _ = _
            simp only [Act.put, List.setIfInBounds_toArray, List.set_cons_zero, List.set_cons_succ, i64_w, i32_w]
            rfl
          refine one_ (i := 8) (N := none) #[true, true, true, true, true, true, true, true, true] rfl rfl (one_of HT_.out (by kernel_rfl)) (by decide) (fun K hK => ?_)
          have hs26 : w25.cell? ⟨gb127, 0, none⟩ = some (.int .i64 0) := (blk_cell BK127.out 0).trans rfl
          have hfs26 := blk_frozen BK127.out 0
          have hns26_0 := NB125_127.out
          have hms26_0 := NB127_125.out
          have hs27 : w25.cell? ⟨gb127, 1, none⟩ = some (.int .i64 0) := (blk_cell BK127.out 1).trans rfl
          have hfs27 := blk_frozen BK127.out 1
          have hns27_0 := NB125_127.out
          have hms27_0 := NB127_125.out
          refine skip_ (w1 := ?_) (by rfl) rfl ?_ ?_
          rotate_left
          · go_simp
            rfl
          refine hK.out _ _ trivial (fun hHeld => ?_)
          clear hK K
          refine done_ (done_of HT_.out (by kernel_rfl)) ?_
          have hnb28 := NB127_125.out
          have hnc28 := NB125_127.out
          have hcz29_0 : w25.cell? ⟨gb127, 0, none⟩ = some (.int .i64 0) := zE BK127
          have hcz29_1 : w25.cell? ⟨gb127, 1, none⟩ = some (.int .i64 0) := zE BK127
          have hfz29_0 := blk_frozen BK127.out 0
          have hfz29_1 := blk_frozen BK127.out 1
          try go_wp2_with (first | ((with_reducible refine gate_callee (f := 103) rfl ?_); refine goesL_ (some 26) rfl rfl Try.func103 (by kernel_rfl) rfl #[.agg #[.int .i64 (wrap64 (Int.tdiv a0 (wrap64 (-t126)))), .int .i64 (wrap64 (Int.tdiv a1 (wrap64 (-t126))))]] rfl zM ?_; (with_reducible refine (spec_l01IsFrac.calls k (wrap64 (Int.tdiv a0 (wrap64 (-t126)))) (wrap64 (Int.tdiv a1 (wrap64 (-t126)))) false _ A9.out).mono ?_); rintro e w30 ⟨rfl, hb⟩; refine ⟨_, rfl, ?_⟩; have n0_ := Aside0.mk (blk_below (g := gb125) (o := .cells #[.int .i64 0, .int .i64 0] 27 (0, 0)) (by (with_reducible repeat (first | refine blk_drewN ?_ _ | refine blk_drew ?_ | refine blk_alloc ?_ _)); refine blk_far ?_ NB125_127.out _; (with_reducible repeat (first | refine blk_drewN ?_ _ | refine blk_drew ?_ | refine blk_alloc ?_ _)); refine blk_far ?_ NB125_127.out _; exact zK) hb); have n1_ := Aside0.mk (blk_below (g := gb127) (o := .cells #[.int .i64 (wrap64 (Int.tdiv a0 (wrap64 (-t126)))), .int .i64 (wrap64 (Int.tdiv a1 (wrap64 (-t126))))] 27 (0, 0)) (by (with_reducible repeat (first | refine blk_drewN ?_ _ | refine blk_drew ?_ | refine blk_alloc ?_ _)); refine blk_put (cs := #[.int .i64 (wrap64 (Int.tdiv a0 (wrap64 (-t126)))), .int .i64 0]) ?_ 1 _ rfl; (with_reducible repeat (first | refine blk_drewN ?_ _ | refine blk_drew ?_ | refine blk_alloc ?_ _)); refine blk_put (cs := #[.int .i64 0, .int .i64 0]) ?_ 0 _ rfl; exact zK) hb); have n2_ := Aside0.mk (below_step zB hb); clear BK125; clear BK127; clear HB; have BK125 := n0_; have BK127 := n1_; have HB := n2_; clear n0_ n1_ n2_; (try clear hb); (try clear hb2); (try clear hk); (try clear hi); have hcz31_0 : w30.cell? ⟨gb125, 0, none⟩ = some (.int .i64 0) := zE BK125; have hcz31_1 : w30.cell? ⟨gb125, 1, none⟩ = some (.int .i64 0) := zE BK125; have hfz31_0 := blk_frozen BK125.out 0; have hfz31_1 := blk_frozen BK125.out 1))
          refine bodyPost_ret (results_ct rfl _ _ gb125 27 #[.int .i64 0, .int .i64 0] (0, 0) _ rfl (by (with_reducible repeat (first | refine blk_drewN ?_ _ | refine blk_drew ?_ | refine blk_alloc ?_ _)); refine blk_put (cs := #[.int .i64 0, .int .i64 0]) ?_ 1 _ rfl; (with_reducible repeat (first | refine blk_drewN ?_ _ | refine blk_drew ?_ | refine blk_alloc ?_ _)); refine blk_put (cs := #[.int .i64 0, .int .i64 0]) ?_ 0 _ rfl; exact zK) Try.underlying27 rfl (by kernel_rfl)) rfl ?_
          exact ⟨by first | rfl | (simp [errW_none, errW_some] <;> rfl) | (simp [*, errW_none, errW_some] <;> rfl), zB⟩
    · rw [if_neg c7] at H
      have c7b0 : decide (a1 < 0) = false := decide_eq_false c7
      clear c7
      by_cases c32 : t126 = 0
      · rw [if_pos c32] at H
        exact absurd H (by simp)
      · rw [if_neg c32] at H
        have c32b0 : (t126 == 0) = false := beq_eq_false_iff_ne.mpr c32
        have c32b1 : (t126 != 0) = true := bne_iff_ne.mpr c32
        replace H := Option.bind_eq_some_iff.mp H
        obtain ⟨t130, A330, H⟩ := H
        replace H : (if t130 = true then (some (wrap64 (Int.tdiv a0 t126), wrap64 (Int.tdiv a1 t126), true)) else (some (0, 0, false))) = some (r1, r2, r3) := H
        have A33 := Aside0.mk A330
        clear A330
        by_cases c34 : t130 = true
        · subst c34
          have H1 : (some (wrap64 (Int.tdiv a0 t126), wrap64 (Int.tdiv a1 t126), true)) = some (r1, r2, r3) := by rw [if_pos rfl] at H; exact H
          clear H
          have H := H1
          clear H1
          simp only [Option.some.injEq, Prod.mk.injEq] at H
          obtain ⟨rfl, rfl, rfl⟩ := H
          go_enter Try.func129, Try.ntmps129
          try go_wp2_with (first | ((with_reducible refine gate_dst (N := 4) rfl ?_); refine box_event ?hg (N := 4) ?hd (cs := #[.int .i64 0, .int .i64 0]) (t := 27) ?hr ?_; (case hd => rfl); (case hg => rfl); (case hr => first | (go_simp; done) | (go_simp; rfl)); intro gb125 hg w35 hbox hb; have n0_ := Aside0.mk (below_step zB hb); have n1_ := Aside0.mk (hbox); have n2_ := Aside0.mk (zG : w.heap.size ≤ gb125); have n3_ := Aside0.mk (zG : w.heap.size ≤ gb125); clear HB; have HB := n0_; have BK125 := n1_; have GW125 := n2_; have GE125 := n3_; clear n0_ n1_ n2_ n3_; clear hb hbox hg) | ((with_reducible refine gate_callee (f := 145) rfl ?_); refine goesL_ (some 13) rfl rfl Try.func145 (by kernel_rfl) rfl #[.int .i64 a0, .int .i64 a1] rfl zM ?_; (with_reducible refine (spec_l01Gcd.calls k a0 a1 t126 _ A6.out).mono ?_); rintro e w36 ⟨rfl, hb⟩; refine ⟨_, rfl, ?_⟩; have n0_ := Aside0.mk (blk_below (g := gb125) (o := .cells #[.int .i64 0, .int .i64 0] 27 (0, 0)) zK hb); have n1_ := Aside0.mk (below_step zB hb); clear BK125; clear HB; have BK125 := n0_; have HB := n1_; clear n0_ n1_; (try clear hb); (try clear hb2); (try clear hk); (try clear hi)))
          have n0_ := Aside0.mk (blk_drew BK125.out)
          have n1_ := Aside0.mk (below_drew1 HB.out)
          clear BK125
          clear HB
          have BK125 := n0_
          have HB := n1_
          clear n0_ n1_
          refine start_ (n := 9) (S := fun w' => True) (ds := []) #[false, false, false, false, false, false, false, false, false] (by kernel_rfl) rfl rfl trivial (fun hHeld => ?_); refine with_tabW spec_l01Frac.tab6 spec_l01Frac.bits6 (fun HT_ HW_ => ?_)
          generalize w36.drew = w37 at BK125 HB hHeld ⊢
          refine zP 0 (N := some 18) (h := ?_)
          refine zP 1 (N := some 19) (h := ?_)
          refine zP 2 (N := some 20) (h := ?_)
          refine zP 3 (N := some 21) (h := ?_)
          refine zP 4 (N := some 22) (h := ?_)
          refine zP 5 (N := some 23) (h := ?_)
          refine zP 6 (N := some 24) (h := ?_)
          refine one_ (i := 7) (N := some 7) #[true, true, true, true, true, true, true, true, false] rfl rfl (one_of HT_.out (by kernel_rfl)) (by decide) (fun K hK => ?_)
          refine box_step ?hg (N := 7) ?hd (cs := #[.int .i64 0, .int .i64 0]) (t := 27) ?hr ?_; (case hd => rfl); (case hg => rfl); (case hr => first | (go_simp; done) | (go_simp; rfl))
          intro gb129 hg w38 hbox hb
          have n0_ := Aside0.mk (blk_below (g := gb125) (o := .cells #[.int .i64 0, .int .i64 0] 27 (0, 0)) zK hb)
          have n1_ := Aside0.mk (below_step zB hb)
          have n2_ := Aside0.mk (hbox)
          have n3_ := Aside0.mk (zG : w.heap.size ≤ gb129)
          have n4_ := Aside0.mk (zG : w.heap.size ≤ gb129)
          have n5_ := Aside0.mk ((by rw [hg]; exact Nat.ne_of_lt (blk_lt (g := gb125) (o := .cells #[.int .i64 0, .int .i64 0] 27 (0, 0)) zK) : gb125 ≠ gb129))
          have n6_ := Aside0.mk ((by rw [hg]; exact Nat.ne_of_gt (blk_lt (g := gb125) (o := .cells #[.int .i64 0, .int .i64 0] 27 (0, 0)) zK) : gb129 ≠ gb125))
          clear BK125
          clear HB
          have BK125 := n0_
          have HB := n1_
          have BK129 := n2_
          have GW129 := n3_
          have GE129 := n4_
          have NB125_129 := n5_
          have NB129_125 := n6_
          clear n0_ n1_ n2_ n3_ n4_ n5_ n6_
          clear hb hbox hg
          refine hK.out _ _ trivial (fun hHeld => ?_)
          clear hK K
          refine norm_ (a' := ?_) ?_ ?_
          rotate_left
          · show Act.put _ (some 7) _ = _
            simp only [Act.put, List.setIfInBounds_toArray, List.set_cons_zero, List.set_cons_succ, i64_w, i32_w]
            rfl
          refine one_ (i := 8) (N := none) #[true, true, true, true, true, true, true, true, true] rfl rfl (one_of HT_.out (by kernel_rfl)) (by decide) (fun K hK => ?_)
          have hs39 : w38.cell? ⟨gb129, 0, none⟩ = some (.int .i64 0) := (blk_cell BK129.out 0).trans rfl
          have hfs39 := blk_frozen BK129.out 0
          have hns39_0 := NB125_129.out
          have hms39_0 := NB129_125.out
          have hs40 : w38.cell? ⟨gb129, 1, none⟩ = some (.int .i64 0) := (blk_cell BK129.out 1).trans rfl
          have hfs40 := blk_frozen BK129.out 1
          have hns40_0 := NB125_129.out
          have hms40_0 := NB129_125.out
          refine skip_ (w1 := ?_) (by rfl) rfl ?_ ?_
          rotate_left
          · go_simp
            rfl
          refine hK.out _ _ trivial (fun hHeld => ?_)
          clear hK K
          refine done_ (done_of HT_.out (by kernel_rfl)) ?_
          have hnb41 := NB129_125.out
          have hnc41 := NB125_129.out
          have hcz42_0 : w38.cell? ⟨gb129, 0, none⟩ = some (.int .i64 0) := zE BK129
          have hcz42_1 : w38.cell? ⟨gb129, 1, none⟩ = some (.int .i64 0) := zE BK129
          have hfz42_0 := blk_frozen BK129.out 0
          have hfz42_1 := blk_frozen BK129.out 1
          try go_wp2_with (first | ((with_reducible refine gate_callee (f := 103) rfl ?_); refine goesL_ (some 26) rfl rfl Try.func103 (by kernel_rfl) rfl #[.agg #[.int .i64 (wrap64 (Int.tdiv a0 t126)), .int .i64 (wrap64 (Int.tdiv a1 t126))]] rfl zM ?_; (with_reducible refine (spec_l01IsFrac.calls k (wrap64 (Int.tdiv a0 t126)) (wrap64 (Int.tdiv a1 t126)) true _ A33.out).mono ?_); rintro e w43 ⟨rfl, hb⟩; refine ⟨_, rfl, ?_⟩; have n0_ := Aside0.mk (blk_below (g := gb125) (o := .cells #[.int .i64 0, .int .i64 0] 27 (0, 0)) (by (with_reducible repeat (first | refine blk_drewN ?_ _ | refine blk_drew ?_ | refine blk_alloc ?_ _)); refine blk_far ?_ NB125_129.out _; (with_reducible repeat (first | refine blk_drewN ?_ _ | refine blk_drew ?_ | refine blk_alloc ?_ _)); refine blk_far ?_ NB125_129.out _; exact zK) hb); have n1_ := Aside0.mk (blk_below (g := gb129) (o := .cells #[.int .i64 (wrap64 (Int.tdiv a0 t126)), .int .i64 (wrap64 (Int.tdiv a1 t126))] 27 (0, 0)) (by (with_reducible repeat (first | refine blk_drewN ?_ _ | refine blk_drew ?_ | refine blk_alloc ?_ _)); refine blk_put (cs := #[.int .i64 (wrap64 (Int.tdiv a0 t126)), .int .i64 0]) ?_ 1 _ rfl; (with_reducible repeat (first | refine blk_drewN ?_ _ | refine blk_drew ?_ | refine blk_alloc ?_ _)); refine blk_put (cs := #[.int .i64 0, .int .i64 0]) ?_ 0 _ rfl; exact zK) hb); have n2_ := Aside0.mk (below_step zB hb); clear BK125; clear BK129; clear HB; have BK125 := n0_; have BK129 := n1_; have HB := n2_; clear n0_ n1_ n2_; (try clear hb); (try clear hb2); (try clear hk); (try clear hi); have hcz44_0 : w43.cell? ⟨gb129, 0, none⟩ = some (.int .i64 (wrap64 (Int.tdiv a0 t126))) := zE BK129; have hcz44_1 : w43.cell? ⟨gb129, 1, none⟩ = some (.int .i64 (wrap64 (Int.tdiv a1 t126))) := zE BK129; have hfz44_0 := blk_frozen BK129.out 0; have hfz44_1 := blk_frozen BK129.out 1; have hcz45_0 : w43.cell? ⟨gb125, 0, none⟩ = some (.int .i64 0) := zE BK125; have hcz45_1 : w43.cell? ⟨gb125, 1, none⟩ = some (.int .i64 0) := zE BK125; have hfz45_0 := blk_frozen BK125.out 0; have hfz45_1 := blk_frozen BK125.out 1))
          refine bodyPost_ret (results_ct rfl _ _ gb125 27 #[.int .i64 (wrap64 (Int.tdiv a0 t126)), .int .i64 (wrap64 (Int.tdiv a1 t126))] (0, 0) _ rfl (by (with_reducible repeat (first | refine blk_drewN ?_ _ | refine blk_drew ?_ | refine blk_alloc ?_ _)); refine blk_put (cs := #[.int .i64 (wrap64 (Int.tdiv a0 t126)), .int .i64 0]) ?_ 1 _ rfl; (with_reducible repeat (first | refine blk_drewN ?_ _ | refine blk_drew ?_ | refine blk_alloc ?_ _)); refine blk_put (cs := #[.int .i64 0, .int .i64 0]) ?_ 0 _ rfl; exact zK) Try.underlying27 rfl (by kernel_rfl)) rfl ?_
          exact ⟨by first | rfl | (simp [errW_none, errW_some] <;> rfl) | (simp [*, errW_none, errW_some] <;> rfl), zB⟩
        · replace c34 := Bool.eq_false_iff.mpr c34
          subst c34
          have H1 : (some (0, 0, false)) = some (r1, r2, r3) := by rw [if_neg (show ¬ (false = true) by decide)] at H; exact H
          clear H
          have H := H1
          clear H1
          simp only [Option.some.injEq, Prod.mk.injEq] at H
          obtain ⟨rfl, rfl, rfl⟩ := H
          go_enter Try.func129, Try.ntmps129
          try go_wp2_with (first | ((with_reducible refine gate_dst (N := 4) rfl ?_); refine box_event ?hg (N := 4) ?hd (cs := #[.int .i64 0, .int .i64 0]) (t := 27) ?hr ?_; (case hd => rfl); (case hg => rfl); (case hr => first | (go_simp; done) | (go_simp; rfl)); intro gb125 hg w46 hbox hb; have n0_ := Aside0.mk (below_step zB hb); have n1_ := Aside0.mk (hbox); have n2_ := Aside0.mk (zG : w.heap.size ≤ gb125); have n3_ := Aside0.mk (zG : w.heap.size ≤ gb125); clear HB; have HB := n0_; have BK125 := n1_; have GW125 := n2_; have GE125 := n3_; clear n0_ n1_ n2_ n3_; clear hb hbox hg) | ((with_reducible refine gate_callee (f := 145) rfl ?_); refine goesL_ (some 13) rfl rfl Try.func145 (by kernel_rfl) rfl #[.int .i64 a0, .int .i64 a1] rfl zM ?_; (with_reducible refine (spec_l01Gcd.calls k a0 a1 t126 _ A6.out).mono ?_); rintro e w47 ⟨rfl, hb⟩; refine ⟨_, rfl, ?_⟩; have n0_ := Aside0.mk (blk_below (g := gb125) (o := .cells #[.int .i64 0, .int .i64 0] 27 (0, 0)) zK hb); have n1_ := Aside0.mk (below_step zB hb); clear BK125; clear HB; have BK125 := n0_; have HB := n1_; clear n0_ n1_; (try clear hb); (try clear hb2); (try clear hk); (try clear hi)))
          have n0_ := Aside0.mk (blk_drew BK125.out)
          have n1_ := Aside0.mk (below_drew1 HB.out)
          clear BK125
          clear HB
          have BK125 := n0_
          have HB := n1_
          clear n0_ n1_
          refine start_ (n := 9) (S := fun w' => True) (ds := []) #[false, false, false, false, false, false, false, false, false] (by kernel_rfl) rfl rfl trivial (fun hHeld => ?_); refine with_tabW spec_l01Frac.tab6 spec_l01Frac.bits6 (fun HT_ HW_ => ?_)
          generalize w47.drew = w48 at BK125 HB hHeld ⊢
          refine zP 0 (N := some 18) (h := ?_)
          refine zP 1 (N := some 19) (h := ?_)
          refine zP 2 (N := some 20) (h := ?_)
          refine zP 3 (N := some 21) (h := ?_)
          refine zP 4 (N := some 22) (h := ?_)
          refine zP 5 (N := some 23) (h := ?_)
          refine zP 6 (N := some 24) (h := ?_)
          refine one_ (i := 7) (N := some 7) #[true, true, true, true, true, true, true, true, false] rfl rfl (one_of HT_.out (by kernel_rfl)) (by decide) (fun K hK => ?_)
          refine box_step ?hg (N := 7) ?hd (cs := #[.int .i64 0, .int .i64 0]) (t := 27) ?hr ?_; (case hd => rfl); (case hg => rfl); (case hr => first | (go_simp; done) | (go_simp; rfl))
          intro gb129 hg w49 hbox hb
          have n0_ := Aside0.mk (blk_below (g := gb125) (o := .cells #[.int .i64 0, .int .i64 0] 27 (0, 0)) zK hb)
          have n1_ := Aside0.mk (below_step zB hb)
          have n2_ := Aside0.mk (hbox)
          have n3_ := Aside0.mk (zG : w.heap.size ≤ gb129)
          have n4_ := Aside0.mk (zG : w.heap.size ≤ gb129)
          have n5_ := Aside0.mk ((by rw [hg]; exact Nat.ne_of_lt (blk_lt (g := gb125) (o := .cells #[.int .i64 0, .int .i64 0] 27 (0, 0)) zK) : gb125 ≠ gb129))
          have n6_ := Aside0.mk ((by rw [hg]; exact Nat.ne_of_gt (blk_lt (g := gb125) (o := .cells #[.int .i64 0, .int .i64 0] 27 (0, 0)) zK) : gb129 ≠ gb125))
          clear BK125
          clear HB
          have BK125 := n0_
          have HB := n1_
          have BK129 := n2_
          have GW129 := n3_
          have GE129 := n4_
          have NB125_129 := n5_
          have NB129_125 := n6_
          clear n0_ n1_ n2_ n3_ n4_ n5_ n6_
          clear hb hbox hg
          refine hK.out _ _ trivial (fun hHeld => ?_)
          clear hK K
          refine norm_ (a' := ?_) ?_ ?_
          rotate_left
          · show Act.put _ (some 7) _ = _
            simp only [Act.put, List.setIfInBounds_toArray, List.set_cons_zero, List.set_cons_succ, i64_w, i32_w]
            rfl
          refine one_ (i := 8) (N := none) #[true, true, true, true, true, true, true, true, true] rfl rfl (one_of HT_.out (by kernel_rfl)) (by decide) (fun K hK => ?_)
          have hs50 : w49.cell? ⟨gb129, 0, none⟩ = some (.int .i64 0) := (blk_cell BK129.out 0).trans rfl
          have hfs50 := blk_frozen BK129.out 0
          have hns50_0 := NB125_129.out
          have hms50_0 := NB129_125.out
          have hs51 : w49.cell? ⟨gb129, 1, none⟩ = some (.int .i64 0) := (blk_cell BK129.out 1).trans rfl
          have hfs51 := blk_frozen BK129.out 1
          have hns51_0 := NB125_129.out
          have hms51_0 := NB129_125.out
          refine skip_ (w1 := ?_) (by rfl) rfl ?_ ?_
          rotate_left
          · go_simp
            rfl
          refine hK.out _ _ trivial (fun hHeld => ?_)
          clear hK K
          refine done_ (done_of HT_.out (by kernel_rfl)) ?_
          have hnb52 := NB129_125.out
          have hnc52 := NB125_129.out
          have hcz53_0 : w49.cell? ⟨gb129, 0, none⟩ = some (.int .i64 0) := zE BK129
          have hcz53_1 : w49.cell? ⟨gb129, 1, none⟩ = some (.int .i64 0) := zE BK129
          have hfz53_0 := blk_frozen BK129.out 0
          have hfz53_1 := blk_frozen BK129.out 1
          try go_wp2_with (first | ((with_reducible refine gate_callee (f := 103) rfl ?_); refine goesL_ (some 26) rfl rfl Try.func103 (by kernel_rfl) rfl #[.agg #[.int .i64 (wrap64 (Int.tdiv a0 t126)), .int .i64 (wrap64 (Int.tdiv a1 t126))]] rfl zM ?_; (with_reducible refine (spec_l01IsFrac.calls k (wrap64 (Int.tdiv a0 t126)) (wrap64 (Int.tdiv a1 t126)) false _ A33.out).mono ?_); rintro e w54 ⟨rfl, hb⟩; refine ⟨_, rfl, ?_⟩; have n0_ := Aside0.mk (blk_below (g := gb125) (o := .cells #[.int .i64 0, .int .i64 0] 27 (0, 0)) (by (with_reducible repeat (first | refine blk_drewN ?_ _ | refine blk_drew ?_ | refine blk_alloc ?_ _)); refine blk_far ?_ NB125_129.out _; (with_reducible repeat (first | refine blk_drewN ?_ _ | refine blk_drew ?_ | refine blk_alloc ?_ _)); refine blk_far ?_ NB125_129.out _; exact zK) hb); have n1_ := Aside0.mk (blk_below (g := gb129) (o := .cells #[.int .i64 (wrap64 (Int.tdiv a0 t126)), .int .i64 (wrap64 (Int.tdiv a1 t126))] 27 (0, 0)) (by (with_reducible repeat (first | refine blk_drewN ?_ _ | refine blk_drew ?_ | refine blk_alloc ?_ _)); refine blk_put (cs := #[.int .i64 (wrap64 (Int.tdiv a0 t126)), .int .i64 0]) ?_ 1 _ rfl; (with_reducible repeat (first | refine blk_drewN ?_ _ | refine blk_drew ?_ | refine blk_alloc ?_ _)); refine blk_put (cs := #[.int .i64 0, .int .i64 0]) ?_ 0 _ rfl; exact zK) hb); have n2_ := Aside0.mk (below_step zB hb); clear BK125; clear BK129; clear HB; have BK125 := n0_; have BK129 := n1_; have HB := n2_; clear n0_ n1_ n2_; (try clear hb); (try clear hb2); (try clear hk); (try clear hi); have hcz55_0 : w54.cell? ⟨gb125, 0, none⟩ = some (.int .i64 0) := zE BK125; have hcz55_1 : w54.cell? ⟨gb125, 1, none⟩ = some (.int .i64 0) := zE BK125; have hfz55_0 := blk_frozen BK125.out 0; have hfz55_1 := blk_frozen BK125.out 1))
          refine bodyPost_ret (results_ct rfl _ _ gb125 27 #[.int .i64 0, .int .i64 0] (0, 0) _ rfl (by (with_reducible repeat (first | refine blk_drewN ?_ _ | refine blk_drew ?_ | refine blk_alloc ?_ _)); refine blk_put (cs := #[.int .i64 0, .int .i64 0]) ?_ 1 _ rfl; (with_reducible repeat (first | refine blk_drewN ?_ _ | refine blk_drew ?_ | refine blk_alloc ?_ _)); refine blk_put (cs := #[.int .i64 0, .int .i64 0]) ?_ 0 _ rfl; exact zK) Try.underlying27 rfl (by kernel_rfl)) rfl ?_
          exact ⟨by first | rfl | (simp [errW_none, errW_some] <;> rfl) | (simp [*, errW_none, errW_some] <;> rfl), zB⟩

/-! ### spec_l01Plus: function 109 -/
def spec_l01Plus.f (k : Nat) (a0_0 : Int) (a0_1 : Int) (a1_0 : Int) (a1_1 : Int) : Option (Int × Int × Bool) := (spec_l01Frac.f k (wrap64 ((wrap64 (a0_0 * a1_1)) + (wrap64 (a1_0 * a0_1)))) (wrap64 (a0_1 * a1_1))).bind fun bt134 => (some (bt134.1, bt134.2.1, bt134.2.2))
theorem spec_l01Plus.mono : ∀ a0 a1 a2 a3 k, LeO (spec_l01Plus.f k a0 a1 a2 a3) (spec_l01Plus.f (k + 1) a0 a1 a2 a3) := by
  intro a0 a1 a2 a3 k
  unfold spec_l01Plus.f
  repeat' first
      | (with_reducible exact spec_l01Frac.mono _ _ _)
      | (with_reducible exact LeO.refl _)
      | (with_reducible exact LeO.none _)
      | (with_reducible refine LeO.ite ?_ ?_)
      | (with_reducible refine LeO.bind ?_ (fun _ => ?_))
set_option maxHeartbeats 8000000 in
set_option maxRecDepth 100000 in
theorem spec_l01Plus.calls (k : Nat) (a0_0 : Int) (a0_1 : Int) (a1_0 : Int) (a1_1 : Int) (r1 : Int) (r2 : Int) (r3 : Bool) (w : World) (h : spec_l01Plus.f k a0_0 a0_1 a1_0 a1_1 = some (r1, r2, r3)) :
    Calls Try.prog 109 #[.agg #[.int .i64 a0_0, .int .i64 a0_1], .agg #[.int .i64 a1_0, .int .i64 a1_1]] w fun e w' => e = .returned (.tuple #[.agg #[.int .i64 r1, .int .i64 r2], .bool r3]) ∧ Below w.heap.size w w' := by
  have hu27 := Try.underlying27
  have HB := Aside0.mk (Below.refl w.heap.size w)
  have H : ((spec_l01Frac.f k (wrap64 ((wrap64 (a0_0 * a1_1)) + (wrap64 (a1_0 * a0_1)))) (wrap64 (a0_1 * a1_1))).bind fun bt134 => (some (bt134.1, bt134.2.1, bt134.2.2))) = some (r1, r2, r3) := h
  clear h
  replace H := Option.bind_eq_some_iff.mp H
  obtain ⟨⟨t134, t135, t136⟩, A30, H⟩ := H
  replace H : (some (t134, t135, t136)) = some (r1, r2, r3) := H
  have A3 := Aside0.mk A30
  clear A30
  simp only [Option.some.injEq, Prod.mk.injEq] at H
  obtain ⟨rfl, rfl, rfl⟩ := H
  go_enter Try.func109, Try.ntmps109
  go_wp2_with (first | ((with_reducible refine gate_dst (N := 2) rfl ?_); refine box_event ?hg (N := 2) ?hd (cs := #[.int .i64 a0_0, .int .i64 a0_1]) (t := 27) ?hr ?_; (case hd => rfl); (case hg => rfl); (case hr => first | (go_simp; done) | (go_simp; rfl)); intro gb131 hg w4 hbox hb; have n0_ := Aside0.mk (below_step zB hb); have n1_ := Aside0.mk (hbox); have n2_ := Aside0.mk (zG : w.heap.size ≤ gb131); have n3_ := Aside0.mk (zG : w.heap.size ≤ gb131); clear HB; have HB := n0_; have BK131 := n1_; have GW131 := n2_; have GE131 := n3_; clear n0_ n1_ n2_ n3_; clear hb hbox hg) | ((with_reducible refine gate_dst (N := 3) rfl ?_); refine box_event ?hg (N := 3) ?hd (cs := #[.int .i64 a1_0, .int .i64 a1_1]) (t := 27) ?hr ?_; (case hd => rfl); (case hg => rfl); (case hr => first | (go_simp; done) | (go_simp; rfl)); intro gb132 hg w5 hbox hb; have n0_ := Aside0.mk (blk_below (g := gb131) (o := .cells #[.int .i64 a0_0, .int .i64 a0_1] 27 (0, 0)) zK hb); have n1_ := Aside0.mk (below_step zB hb); have n2_ := Aside0.mk (hbox); have n3_ := Aside0.mk (zG : w.heap.size ≤ gb132); have n4_ := Aside0.mk (zG : w.heap.size ≤ gb132); have n5_ := Aside0.mk ((by rw [hg]; exact Nat.ne_of_lt (blk_lt (g := gb131) (o := .cells #[.int .i64 a0_0, .int .i64 a0_1] 27 (0, 0)) zK) : gb131 ≠ gb132)); have n6_ := Aside0.mk ((by rw [hg]; exact Nat.ne_of_gt (blk_lt (g := gb131) (o := .cells #[.int .i64 a0_0, .int .i64 a0_1] 27 (0, 0)) zK) : gb132 ≠ gb131)); clear BK131; clear HB; have BK131 := n0_; have HB := n1_; have BK132 := n2_; have GW132 := n3_; have GE132 := n4_; have NB131_132 := n5_; have NB132_131 := n6_; clear n0_ n1_ n2_ n3_ n4_ n5_ n6_; clear hb hbox hg) | ((with_reducible refine gate_dst (N := 4) rfl ?_); refine box_event ?hg (N := 4) ?hd (cs := #[.int .i64 0, .int .i64 0]) (t := 27) ?hr ?_; (case hd => rfl); (case hg => rfl); (case hr => first | (go_simp; done) | (go_simp; rfl)); intro gb133 hg w6 hbox hb; have n0_ := Aside0.mk (blk_below (g := gb131) (o := .cells #[.int .i64 a0_0, .int .i64 a0_1] 27 (0, 0)) zK hb); have n1_ := Aside0.mk (blk_below (g := gb132) (o := .cells #[.int .i64 a1_0, .int .i64 a1_1] 27 (0, 0)) zK hb); have n2_ := Aside0.mk (below_step zB hb); have n3_ := Aside0.mk (hbox); have n4_ := Aside0.mk (zG : w.heap.size ≤ gb133); have n5_ := Aside0.mk (zG : w.heap.size ≤ gb133); have n6_ := Aside0.mk ((by rw [hg]; exact Nat.ne_of_lt (blk_lt (g := gb131) (o := .cells #[.int .i64 a0_0, .int .i64 a0_1] 27 (0, 0)) zK) : gb131 ≠ gb133)); have n7_ := Aside0.mk ((by rw [hg]; exact Nat.ne_of_gt (blk_lt (g := gb131) (o := .cells #[.int .i64 a0_0, .int .i64 a0_1] 27 (0, 0)) zK) : gb133 ≠ gb131)); have n8_ := Aside0.mk ((by rw [hg]; exact Nat.ne_of_lt (blk_lt (g := gb132) (o := .cells #[.int .i64 a1_0, .int .i64 a1_1] 27 (0, 0)) zK) : gb132 ≠ gb133)); have n9_ := Aside0.mk ((by rw [hg]; exact Nat.ne_of_gt (blk_lt (g := gb132) (o := .cells #[.int .i64 a1_0, .int .i64 a1_1] 27 (0, 0)) zK) : gb133 ≠ gb132)); clear BK131; clear BK132; clear HB; have BK131 := n0_; have BK132 := n1_; have HB := n2_; have BK133 := n3_; have GW133 := n4_; have GE133 := n5_; have NB131_133 := n6_; have NB133_131 := n7_; have NB132_133 := n8_; have NB133_132 := n9_; clear n0_ n1_ n2_ n3_ n4_ n5_ n6_ n7_ n8_ n9_; clear hb hbox hg; have hnb7 := NB131_132.out; have hnc7 := NB132_131.out; have hnb8 := NB131_133.out; have hnc8 := NB133_131.out; have hcz9_0 : w6.cell? ⟨gb131, 0, none⟩ = some (.int .i64 a0_0) := zE BK131; have hcz9_1 : w6.cell? ⟨gb131, 1, none⟩ = some (.int .i64 a0_1) := zE BK131; have hfz9_0 := blk_frozen BK131.out 0; have hfz9_1 := blk_frozen BK131.out 1; have hnb10 := NB132_133.out; have hnc10 := NB133_132.out; have hcz11_0 : w6.cell? ⟨gb132, 0, none⟩ = some (.int .i64 a1_0) := zE BK132; have hcz11_1 : w6.cell? ⟨gb132, 1, none⟩ = some (.int .i64 a1_1) := zE BK132; have hfz11_0 := blk_frozen BK132.out 0; have hfz11_1 := blk_frozen BK132.out 1) | ((with_reducible refine gate_callee (f := 129) rfl ?_); refine goesL_ (some 25) rfl rfl Try.func129 (by kernel_rfl) rfl #[.int .i64 (wrap64 ((wrap64 (a0_0 * a1_1)) + (wrap64 (a1_0 * a0_1)))), .int .i64 (wrap64 (a0_1 * a1_1))] rfl zM ?_; (with_reducible refine (spec_l01Frac.calls k (wrap64 ((wrap64 (a0_0 * a1_1)) + (wrap64 (a1_0 * a0_1)))) (wrap64 (a0_1 * a1_1)) t134 t135 t136 _ A3.out).mono ?_); rintro e w12 ⟨rfl, hb⟩; refine ⟨_, rfl, ?_⟩; have n0_ := Aside0.mk (blk_below (g := gb131) (o := .cells #[.int .i64 a0_0, .int .i64 a0_1] 27 (0, 0)) zK hb); have n1_ := Aside0.mk (blk_below (g := gb132) (o := .cells #[.int .i64 a1_0, .int .i64 a1_1] 27 (0, 0)) zK hb); have n2_ := Aside0.mk (blk_below (g := gb133) (o := .cells #[.int .i64 0, .int .i64 0] 27 (0, 0)) zK hb); have n3_ := Aside0.mk (below_step zB hb); clear BK131; clear BK132; clear BK133; clear HB; have BK131 := n0_; have BK132 := n1_; have BK133 := n2_; have HB := n3_; clear n0_ n1_ n2_ n3_; (try clear hb); (try clear hb2); (try clear hk); (try clear hi)) | ((with_reducible refine gate_dst (N := 6) rfl ?_); refine box_event ?hg (N := 6) ?hd (cs := #[.int .i64 0, .int .i64 0]) (t := 27) ?hr ?_; (case hd => rfl); (case hg => rfl); (case hr => first | (go_simp; done) | (go_simp; rfl)); intro gb137 hg w13 hbox hb; have n0_ := Aside0.mk (blk_below (g := gb131) (o := .cells #[.int .i64 a0_0, .int .i64 a0_1] 27 (0, 0)) zK hb); have n1_ := Aside0.mk (blk_below (g := gb132) (o := .cells #[.int .i64 a1_0, .int .i64 a1_1] 27 (0, 0)) zK hb); have n2_ := Aside0.mk (blk_below (g := gb133) (o := .cells #[.int .i64 0, .int .i64 0] 27 (0, 0)) zK hb); have n3_ := Aside0.mk (below_step zB hb); have n4_ := Aside0.mk (hbox); have n5_ := Aside0.mk (zG : w.heap.size ≤ gb137); have n6_ := Aside0.mk (zG : w.heap.size ≤ gb137); have n7_ := Aside0.mk ((by rw [hg]; exact Nat.ne_of_lt (blk_lt (g := gb131) (o := .cells #[.int .i64 a0_0, .int .i64 a0_1] 27 (0, 0)) zK) : gb131 ≠ gb137)); have n8_ := Aside0.mk ((by rw [hg]; exact Nat.ne_of_gt (blk_lt (g := gb131) (o := .cells #[.int .i64 a0_0, .int .i64 a0_1] 27 (0, 0)) zK) : gb137 ≠ gb131)); have n9_ := Aside0.mk ((by rw [hg]; exact Nat.ne_of_lt (blk_lt (g := gb132) (o := .cells #[.int .i64 a1_0, .int .i64 a1_1] 27 (0, 0)) zK) : gb132 ≠ gb137)); have n10_ := Aside0.mk ((by rw [hg]; exact Nat.ne_of_gt (blk_lt (g := gb132) (o := .cells #[.int .i64 a1_0, .int .i64 a1_1] 27 (0, 0)) zK) : gb137 ≠ gb132)); have n11_ := Aside0.mk ((by rw [hg]; exact Nat.ne_of_lt (blk_lt (g := gb133) (o := .cells #[.int .i64 0, .int .i64 0] 27 (0, 0)) zK) : gb133 ≠ gb137)); have n12_ := Aside0.mk ((by rw [hg]; exact Nat.ne_of_gt (blk_lt (g := gb133) (o := .cells #[.int .i64 0, .int .i64 0] 27 (0, 0)) zK) : gb137 ≠ gb133)); clear BK131; clear BK132; clear BK133; clear HB; have BK131 := n0_; have BK132 := n1_; have BK133 := n2_; have HB := n3_; have BK137 := n4_; have GW137 := n5_; have GE137 := n6_; have NB131_137 := n7_; have NB137_131 := n8_; have NB132_137 := n9_; have NB137_132 := n10_; have NB133_137 := n11_; have NB137_133 := n12_; clear n0_ n1_ n2_ n3_ n4_ n5_ n6_ n7_ n8_ n9_ n10_ n11_ n12_; clear hb hbox hg; have hnb14 := NB137_131.out; have hnc14 := NB131_137.out; have hnb15 := NB137_132.out; have hnc15 := NB132_137.out; have hnb16 := NB137_133.out; have hnc16 := NB133_137.out; have hcz17_0 : w13.cell? ⟨gb137, 0, none⟩ = some (.int .i64 0) := zE BK137; have hcz17_1 : w13.cell? ⟨gb137, 1, none⟩ = some (.int .i64 0) := zE BK137; have hfz17_0 := blk_frozen BK137.out 0; have hfz17_1 := blk_frozen BK137.out 1; have hcz18_0 : w13.cell? ⟨gb133, 0, none⟩ = some (.int .i64 0) := zE BK133; have hcz18_1 : w13.cell? ⟨gb133, 1, none⟩ = some (.int .i64 0) := zE BK133; have hfz18_0 := blk_frozen BK133.out 0; have hfz18_1 := blk_frozen BK133.out 1))
  refine bodyPost_ret (results_ct rfl _ _ gb133 27 #[.int .i64 t134, .int .i64 t135] (0, 0) _ rfl (by (with_reducible repeat (first | refine blk_drewN ?_ _ | refine blk_drew ?_ | refine blk_alloc ?_ _)); refine blk_put (cs := #[.int .i64 t134, .int .i64 0]) ?_ 1 _ rfl; (with_reducible repeat (first | refine blk_drewN ?_ _ | refine blk_drew ?_ | refine blk_alloc ?_ _)); refine blk_put (cs := #[.int .i64 0, .int .i64 0]) ?_ 0 _ rfl; (with_reducible repeat (first | refine blk_drewN ?_ _ | refine blk_drew ?_ | refine blk_alloc ?_ _)); refine blk_far ?_ NB133_137.out _; (with_reducible repeat (first | refine blk_drewN ?_ _ | refine blk_drew ?_ | refine blk_alloc ?_ _)); refine blk_far ?_ NB133_137.out _; exact zK) Try.underlying27 rfl (by kernel_rfl)) rfl ?_
  exact ⟨by first | rfl | (simp [errW_none, errW_some] <;> rfl) | (simp [*, errW_none, errW_some] <;> rfl), zB⟩

end Go.Proofs.Ytcklefgkbddlhaa.P
