/- What a call of each Go function named below comes to is what the plain Lean function beside it says. Made by a program of this session out of the print of the translation; Lean checks it. -/
import Derived.Test.YtcklefgkbddlhaaPx0
import Derived.Test.YtcklefgkbddlhaaPx3
namespace Go.Proofs.Ytcklefgkbddlhaa.P
open Go.RowKit Go.Proofs.YtcklefgkbddlhaaW.PrintWords Go.Proofs.YtcklefgkbddlhaaW.PrintLast Go.Proofs.YtcklefgkbddlhaaW.PrintMore
attribute [local go_sem] max2_int min2_int max_two min_two max_three min_three max_four min_four   -- for this text's walks alone
set_option linter.unusedVariables false
set_option linter.unusedSimpArgs false
set_option maxHeartbeats 8000000
set_option maxRecDepth 100000


/-! ### spec_l01Frac: function 129 -/
def spec_l01Frac.f (k : Nat) (a0 : Int) (a1 : Int) : Option (Int × Int × Bool) := if a1 = 0 then (some (0, 0, false)) else ((spec_l01Gcd.f k a0 a1).bind fun t185 => (if a1 < 0 then (if (wrap64 (-t185)) = 0 then (none) else ((spec_l01IsFrac.f k (wrap64 (Int.tdiv a0 (wrap64 (-t185)))) (wrap64 (Int.tdiv a1 (wrap64 (-t185))))).bind fun t187 => (if t187 = true then (some (wrap64 (Int.tdiv a0 (wrap64 (-t185))), wrap64 (Int.tdiv a1 (wrap64 (-t185))), true)) else (some (0, 0, false))))) else (if t185 = 0 then (none) else ((spec_l01IsFrac.f k (wrap64 (Int.tdiv a0 t185)) (wrap64 (Int.tdiv a1 t185))).bind fun t189 => (if t189 = true then (some (wrap64 (Int.tdiv a0 t185), wrap64 (Int.tdiv a1 t185), true)) else (some (0, 0, false)))))))
def spec_l01Frac.T6 : Bool × List (List Nat × List Nat) := (true, [([], []), ([], []), ([0, 1], [0, 1]), ([], []), ([], []), ([3, 4], [3, 4]), ([2, 5], [2, 5]), ([], []), ([7, 6, 0, 1, 2, 3, 4, 5, 6, 7], [6, 7])])
def spec_l01Frac.B6 : List Nat := [0, 0, 3, 0, 0, 24, 63, 0, 255]
theorem spec_l01Frac.tab6 : rtab .any (opsOf Try.f129 6) = spec_l01Frac.T6 := by kernel_rfl
theorem spec_l01Frac.bits6 : waitsOk spec_l01Frac.T6.2 spec_l01Frac.B6 = true := by kernel_rfl
theorem spec_l01Frac.calls (k : Nat) (a0 : Int) (a1 : Int) (r1 : Int) (r2 : Int) (r3 : Bool) (w : World) (h : spec_l01Frac.f k a0 a1 = some (r1, r2, r3)) :
 Calls Try.prog 129 #[.int .i64 a0, .int .i64 a1] w fun e w' => e = .returned (.tuple #[.agg #[.int .i64 r1, .int .i64 r2], .bool r3]) ∧ Below w.heap.size w w' := by
 have hu27 := Try.underlying27
 have HB := zA (Below.refl w.heap.size w)
 have H : (if a1 = 0 then (some (0, 0, false)) else ((spec_l01Gcd.f k a0 a1).bind fun t185 => (if a1 < 0 then (if (wrap64 (-t185)) = 0 then (none) else ((spec_l01IsFrac.f k (wrap64 (Int.tdiv a0 (wrap64 (-t185)))) (wrap64 (Int.tdiv a1 (wrap64 (-t185))))).bind fun t187 => (if t187 = true then (some (wrap64 (Int.tdiv a0 (wrap64 (-t185))), wrap64 (Int.tdiv a1 (wrap64 (-t185))), true)) else (some (0, 0, false))))) else (if t185 = 0 then (none) else ((spec_l01IsFrac.f k (wrap64 (Int.tdiv a0 t185)) (wrap64 (Int.tdiv a1 t185))).bind fun t189 => (if t189 = true then (some (wrap64 (Int.tdiv a0 t185), wrap64 (Int.tdiv a1 t185), true)) else (some (0, 0, false)))))))) = some (r1, r2, r3) := h
 clear h
 by_cases c3 : a1 = 0
 ·rw [if_pos c3] at H
  have c3b0 : (a1 == 0) = true := beq_iff_eq.mpr c3
  have c3b1 : (a1 != 0) = false := bne_eq_false_iff_eq.mpr c3
  clear c3
  simp only [Option.some.injEq, Prod.mk.injEq] at H
  obtain ⟨rfl, rfl, rfl⟩ := H
  go_enter Try.func129, Try.ntmps129
  go_wp2_with (first | ((with_reducible refine gate_dst (N := 4) rfl ?_); refine zX 4 (#[.int .i64 0, .int .i64 0]) 27 ?_; intro gb184 hg w4 hbox hb; have BK184 := zA (hbox); have GW184 := zA (zG : w.heap.size ≤ gb184); have GE184 := zA (zG : w.heap.size ≤ gb184); replace HB := zA (below_step zB hb); clear hb hbox hg; obtain ⟨hcz5_0, hcz5_1, hfz5_0, hfz5_1⟩ := zC2 BK184))
  refine bodyPost_ret (results_ct rfl _ _ gb184 27 #[.int .i64 0, .int .i64 0] (0, 0) _ rfl (by refine blk_put (cs := #[.int .i64 0, .int .i64 0]) ?_ 1 _ rfl; refine blk_put (cs := #[.int .i64 0, .int .i64 0]) ?_ 0 _ rfl; exact zK) Try.underlying27 rfl (by kernel_rfl)) rfl ?_
  exact ⟨by rfl, zB⟩
 ·rw [if_neg c3] at H
  have c3b0 : (a1 == 0) = false := beq_eq_false_iff_ne.mpr c3
  have c3b1 : (a1 != 0) = true := bne_iff_ne.mpr c3
  replace H := Option.bind_eq_some_iff.mp H
  obtain ⟨t185, A60, H⟩ := H
  replace H : (if a1 < 0 then (if (wrap64 (-t185)) = 0 then (none) else ((spec_l01IsFrac.f k (wrap64 (Int.tdiv a0 (wrap64 (-t185)))) (wrap64 (Int.tdiv a1 (wrap64 (-t185))))).bind fun t187 => (if t187 = true then (some (wrap64 (Int.tdiv a0 (wrap64 (-t185))), wrap64 (Int.tdiv a1 (wrap64 (-t185))), true)) else (some (0, 0, false))))) else (if t185 = 0 then (none) else ((spec_l01IsFrac.f k (wrap64 (Int.tdiv a0 t185)) (wrap64 (Int.tdiv a1 t185))).bind fun t189 => (if t189 = true then (some (wrap64 (Int.tdiv a0 t185), wrap64 (Int.tdiv a1 t185), true)) else (some (0, 0, false)))))) = some (r1, r2, r3) := H
  have A6 := zA A60
  clear A60
  by_cases c7 : a1 < 0
  ·rw [if_pos c7] at H
   have c7b0 : decide (a1 < 0) = true := decide_eq_true c7
   clear c7
   by_cases c8 : (wrap64 (-t185)) = 0
   ·rw [if_pos c8] at H
    exact absurd H (by simp)
   ·rw [if_neg c8] at H
    have c8b0 : ((wrap64 (-t185)) == 0) = false := beq_eq_false_iff_ne.mpr c8
    have c8b1 : ((wrap64 (-t185)) != 0) = true := bne_iff_ne.mpr c8
    replace H := Option.bind_eq_some_iff.mp H
    obtain ⟨t187, A90, H⟩ := H
    replace H : (if t187 = true then (some (wrap64 (Int.tdiv a0 (wrap64 (-t185))), wrap64 (Int.tdiv a1 (wrap64 (-t185))), true)) else (some (0, 0, false))) = some (r1, r2, r3) := H
    have A9 := zA A90
    clear A90
    by_cases c10 : t187 = true
    ·subst c10
     have H1 : (some (wrap64 (Int.tdiv a0 (wrap64 (-t185))), wrap64 (Int.tdiv a1 (wrap64 (-t185))), true)) = some (r1, r2, r3) := by rw [if_pos rfl] at H; exact H
     clear H
     have H := H1
     clear H1
     simp only [Option.some.injEq, Prod.mk.injEq] at H
     obtain ⟨rfl, rfl, rfl⟩ := H
     go_enter Try.func129, Try.ntmps129
     try go_wp2_with (first | ((with_reducible refine gate_dst (N := 4) rfl ?_); refine zX 4 (#[.int .i64 0, .int .i64 0]) 27 ?_; intro gb184 hg w11 hbox hb; have BK184 := zA (hbox); have GW184 := zA (zG : w.heap.size ≤ gb184); have GE184 := zA (zG : w.heap.size ≤ gb184); replace HB := zA (below_step zB hb); clear hb hbox hg) | ((with_reducible refine gate_callee (f := 145) rfl ?_); refine goesL_ (some 13) rfl rfl Try.func145 (by kernel_rfl) rfl #[.int .i64 a0, .int .i64 a1] rfl zM ?_; (with_reducible refine (spec_l01Gcd.calls k a0 a1 t185 _ A6.out).mono ?_); rintro e w12 ⟨rfl, hb⟩; refine ⟨_, rfl, ?_⟩; replace BK184 := zA (zW BK184 hb); replace HB := zA (below_step zB hb); (try clear hb); (try clear hb2); (try clear hk); (try clear hi)))
     replace BK184 := zA (blk_drew BK184.out)
     replace HB := zA (below_drew1 HB.out)
     refine start_ (n := 9) (S := fun w' => True) (ds := []) #[false, false, false, false, false, false, false, false, false] (by kernel_rfl) rfl rfl trivial (fun hHeld => ?_); refine with_tabW spec_l01Frac.tab6 spec_l01Frac.bits6 (fun HT_ HW_ => ?_)
     generalize w12.drew = w13 at BK184 HB hHeld ⊢
     refine zP 0 (N := some 18) (h := ?_)
     refine zP 1 (N := some 19) (h := ?_)
     refine zP 2 (N := some 20) (h := ?_)
     refine zP 3 (N := some 21) (h := ?_)
     refine zP 4 (N := some 22) (h := ?_)
     refine zP 5 (N := some 23) (h := ?_)
     refine zP 6 (N := some 24) (h := ?_)
     refine one_ (i := 7) (N := some 7) #[true, true, true, true, true, true, true, true, false] rfl rfl (one_of HT_.out (by kernel_rfl)) (by decide) (fun K hK => ?_)
     refine box_step ?hg (N := 7) ?hd (cs := #[.int .i64 0, .int .i64 0]) (t := 27) ?hr ?_; (case hd => rfl); (case hg => rfl); (case hr => (go_simp; done))
     intro gb186 hg w14 hbox hb
     have BK186 := zA (hbox)
     have GW186 := zA (zG : w.heap.size ≤ gb186)
     have GE186 := zA (zG : w.heap.size ≤ gb186)
     have NB184_186 := zA (zU BK184 hg)
     have NB186_184 := zA (zV BK184 hg)
     replace BK184 := zA (zW BK184 hb)
     replace HB := zA (below_step zB hb)
     clear hb hbox hg
     refine hK.out _ _ trivial (fun hHeld => ?_)
     clear hK K
     refine norm_ (a' := ?_) ?_ ?_
     rotate_left
     ·show Act.put _ (some 7) _ = _
      simp only [Act.put, List.setIfInBounds_toArray, List.set, i64_w, i32_w]
      rfl
     refine one_ (i := 8) (N := none) #[true, true, true, true, true, true, true, true, true] rfl rfl (one_of HT_.out (by kernel_rfl)) (by decide) (fun K hK => ?_)
     have hs15 : w14.cell? ⟨gb186, 0, none⟩ = some (.int .i64 0) := (blk_cell BK186.out 0).trans rfl
     have hfs15 := blk_frozen BK186.out 0
     have hns15_0 := NB184_186.out
     have hms15_0 := NB186_184.out
     have hs16 : w14.cell? ⟨gb186, 1, none⟩ = some (.int .i64 0) := (blk_cell BK186.out 1).trans rfl
     have hfs16 := blk_frozen BK186.out 1
     have hns16_0 := NB184_186.out
     have hms16_0 := NB186_184.out
     refine skip_ (w1 := ?_) (by rfl) rfl ?_ ?_
     rotate_left
     ·go_simp
      rfl
     refine hK.out _ _ trivial (fun hHeld => ?_)
     clear hK K
     refine done_ (done_of HT_.out (by kernel_rfl)) ?_
     have hnb17 := NB186_184.out
     have hnc17 := NB184_186.out
     obtain ⟨hcz18_0, hcz18_1, hfz18_0, hfz18_1⟩ := zC2 BK186
     try go_wp2_with (first | ((with_reducible refine gate_callee (f := 103) rfl ?_); refine goesL_ (some 26) rfl rfl Try.func103 (by kernel_rfl) rfl #[.agg #[.int .i64 (wrap64 (Int.tdiv a0 (wrap64 (-t185)))), .int .i64 (wrap64 (Int.tdiv a1 (wrap64 (-t185))))]] rfl zM ?_; (with_reducible refine (spec_l01IsFrac.calls k (wrap64 (Int.tdiv a0 (wrap64 (-t185)))) (wrap64 (Int.tdiv a1 (wrap64 (-t185)))) true _ A9.out).mono ?_); rintro e w19 ⟨rfl, hb⟩; refine ⟨_, rfl, ?_⟩; replace BK184 := zA (blk_below (g := gb184) (o := .cells #[.int .i64 0, .int .i64 0] 27 (0, 0)) (by refine blk_far ?_ NB184_186.out _; refine blk_far ?_ NB184_186.out _; exact zK) hb); replace BK186 := zA (blk_below (g := gb186) (o := .cells #[.int .i64 (wrap64 (Int.tdiv a0 (wrap64 (-t185)))), .int .i64 (wrap64 (Int.tdiv a1 (wrap64 (-t185))))] 27 (0, 0)) (by refine blk_put (cs := #[.int .i64 (wrap64 (Int.tdiv a0 (wrap64 (-t185)))), .int .i64 0]) ?_ 1 _ rfl; refine blk_put (cs := #[.int .i64 0, .int .i64 0]) ?_ 0 _ rfl; exact zK) hb); replace HB := zA (below_step zB hb); (try clear hb); (try clear hb2); (try clear hk); (try clear hi); obtain ⟨hcz20_0, hcz20_1, hfz20_0, hfz20_1⟩ := zC2 BK186; obtain ⟨hcz21_0, hcz21_1, hfz21_0, hfz21_1⟩ := zC2 BK184))
     refine bodyPost_ret (results_ct rfl _ _ gb184 27 #[.int .i64 (wrap64 (Int.tdiv a0 (wrap64 (-t185)))), .int .i64 (wrap64 (Int.tdiv a1 (wrap64 (-t185))))] (0, 0) _ rfl (by refine blk_put (cs := #[.int .i64 (wrap64 (Int.tdiv a0 (wrap64 (-t185)))), .int .i64 0]) ?_ 1 _ rfl; refine blk_put (cs := #[.int .i64 0, .int .i64 0]) ?_ 0 _ rfl; exact zK) Try.underlying27 rfl (by kernel_rfl)) rfl ?_
     exact ⟨by rfl, zB⟩
    ·replace c10 := Bool.eq_false_iff.mpr c10
     subst c10
     have H1 : (some (0, 0, false)) = some (r1, r2, r3) := by rw [if_neg (show ¬ (false = true) by decide)] at H; exact H
     clear H
     have H := H1
     clear H1
     simp only [Option.some.injEq, Prod.mk.injEq] at H
     obtain ⟨rfl, rfl, rfl⟩ := H
     go_enter Try.func129, Try.ntmps129
     try go_wp2_with (first | ((with_reducible refine gate_dst (N := 4) rfl ?_); refine zX 4 (#[.int .i64 0, .int .i64 0]) 27 ?_; intro gb184 hg w22 hbox hb; have BK184 := zA (hbox); have GW184 := zA (zG : w.heap.size ≤ gb184); have GE184 := zA (zG : w.heap.size ≤ gb184); replace HB := zA (below_step zB hb); clear hb hbox hg) | ((with_reducible refine gate_callee (f := 145) rfl ?_); refine goesL_ (some 13) rfl rfl Try.func145 (by kernel_rfl) rfl #[.int .i64 a0, .int .i64 a1] rfl zM ?_; (with_reducible refine (spec_l01Gcd.calls k a0 a1 t185 _ A6.out).mono ?_); rintro e w23 ⟨rfl, hb⟩; refine ⟨_, rfl, ?_⟩; replace BK184 := zA (zW BK184 hb); replace HB := zA (below_step zB hb); (try clear hb); (try clear hb2); (try clear hk); (try clear hi)))
     replace BK184 := zA (blk_drew BK184.out)
     replace HB := zA (below_drew1 HB.out)
     refine start_ (n := 9) (S := fun w' => True) (ds := []) #[false, false, false, false, false, false, false, false, false] (by kernel_rfl) rfl rfl trivial (fun hHeld => ?_); refine with_tabW spec_l01Frac.tab6 spec_l01Frac.bits6 (fun HT_ HW_ => ?_)
     generalize w23.drew = w24 at BK184 HB hHeld ⊢
     refine zP 0 (N := some 18) (h := ?_)
     refine zP 1 (N := some 19) (h := ?_)
     refine zP 2 (N := some 20) (h := ?_)
     refine zP 3 (N := some 21) (h := ?_)
     refine zP 4 (N := some 22) (h := ?_)
     refine zP 5 (N := some 23) (h := ?_)
     refine zP 6 (N := some 24) (h := ?_)
     refine one_ (i := 7) (N := some 7) #[true, true, true, true, true, true, true, true, false] rfl rfl (one_of HT_.out (by kernel_rfl)) (by decide) (fun K hK => ?_)
     refine box_step ?hg (N := 7) ?hd (cs := #[.int .i64 0, .int .i64 0]) (t := 27) ?hr ?_; (case hd => rfl); (case hg => rfl); (case hr => (go_simp; done))
     intro gb186 hg w25 hbox hb
     have BK186 := zA (hbox)
     have GW186 := zA (zG : w.heap.size ≤ gb186)
     have GE186 := zA (zG : w.heap.size ≤ gb186)
     have NB184_186 := zA (zU BK184 hg)
     have NB186_184 := zA (zV BK184 hg)
     replace BK184 := zA (zW BK184 hb)
     replace HB := zA (below_step zB hb)
     clear hb hbox hg
     refine hK.out _ _ trivial (fun hHeld => ?_)
     clear hK K
     refine norm_ (a' := ?_) ?_ ?_
     rotate_left
     ·show Act.put _ (some 7) _ = _
      simp only [Act.put, List.setIfInBounds_toArray, List.set, i64_w, i32_w]
      rfl
     refine one_ (i := 8) (N := none) #[true, true, true, true, true, true, true, true, true] rfl rfl (one_of HT_.out (by kernel_rfl)) (by decide) (fun K hK => ?_)
     have hs26 : w25.cell? ⟨gb186, 0, none⟩ = some (.int .i64 0) := (blk_cell BK186.out 0).trans rfl
     have hfs26 := blk_frozen BK186.out 0
     have hns26_0 := NB184_186.out
     have hms26_0 := NB186_184.out
     have hs27 : w25.cell? ⟨gb186, 1, none⟩ = some (.int .i64 0) := (blk_cell BK186.out 1).trans rfl
     have hfs27 := blk_frozen BK186.out 1
     have hns27_0 := NB184_186.out
     have hms27_0 := NB186_184.out
     refine skip_ (w1 := ?_) (by rfl) rfl ?_ ?_
     rotate_left
     ·go_simp
      rfl
     refine hK.out _ _ trivial (fun hHeld => ?_)
     clear hK K
     refine done_ (done_of HT_.out (by kernel_rfl)) ?_
     have hnb28 := NB186_184.out
     have hnc28 := NB184_186.out
     obtain ⟨hcz29_0, hcz29_1, hfz29_0, hfz29_1⟩ := zC2 BK186
     try go_wp2_with (first | ((with_reducible refine gate_callee (f := 103) rfl ?_); refine goesL_ (some 26) rfl rfl Try.func103 (by kernel_rfl) rfl #[.agg #[.int .i64 (wrap64 (Int.tdiv a0 (wrap64 (-t185)))), .int .i64 (wrap64 (Int.tdiv a1 (wrap64 (-t185))))]] rfl zM ?_; (with_reducible refine (spec_l01IsFrac.calls k (wrap64 (Int.tdiv a0 (wrap64 (-t185)))) (wrap64 (Int.tdiv a1 (wrap64 (-t185)))) false _ A9.out).mono ?_); rintro e w30 ⟨rfl, hb⟩; refine ⟨_, rfl, ?_⟩; replace BK184 := zA (blk_below (g := gb184) (o := .cells #[.int .i64 0, .int .i64 0] 27 (0, 0)) (by refine blk_far ?_ NB184_186.out _; refine blk_far ?_ NB184_186.out _; exact zK) hb); replace BK186 := zA (blk_below (g := gb186) (o := .cells #[.int .i64 (wrap64 (Int.tdiv a0 (wrap64 (-t185)))), .int .i64 (wrap64 (Int.tdiv a1 (wrap64 (-t185))))] 27 (0, 0)) (by refine blk_put (cs := #[.int .i64 (wrap64 (Int.tdiv a0 (wrap64 (-t185)))), .int .i64 0]) ?_ 1 _ rfl; refine blk_put (cs := #[.int .i64 0, .int .i64 0]) ?_ 0 _ rfl; exact zK) hb); replace HB := zA (below_step zB hb); (try clear hb); (try clear hb2); (try clear hk); (try clear hi); obtain ⟨hcz31_0, hcz31_1, hfz31_0, hfz31_1⟩ := zC2 BK184))
     refine bodyPost_ret (results_ct rfl _ _ gb184 27 #[.int .i64 0, .int .i64 0] (0, 0) _ rfl (by refine blk_put (cs := #[.int .i64 0, .int .i64 0]) ?_ 1 _ rfl; refine blk_put (cs := #[.int .i64 0, .int .i64 0]) ?_ 0 _ rfl; exact zK) Try.underlying27 rfl (by kernel_rfl)) rfl ?_
     exact ⟨by rfl, zB⟩
  ·rw [if_neg c7] at H
   have c7b0 : decide (a1 < 0) = false := decide_eq_false c7
   clear c7
   by_cases c32 : t185 = 0
   ·rw [if_pos c32] at H
    exact absurd H (by simp)
   ·rw [if_neg c32] at H
    have c32b0 : (t185 == 0) = false := beq_eq_false_iff_ne.mpr c32
    have c32b1 : (t185 != 0) = true := bne_iff_ne.mpr c32
    replace H := Option.bind_eq_some_iff.mp H
    obtain ⟨t189, A330, H⟩ := H
    replace H : (if t189 = true then (some (wrap64 (Int.tdiv a0 t185), wrap64 (Int.tdiv a1 t185), true)) else (some (0, 0, false))) = some (r1, r2, r3) := H
    have A33 := zA A330
    clear A330
    by_cases c34 : t189 = true
    ·subst c34
     have H1 : (some (wrap64 (Int.tdiv a0 t185), wrap64 (Int.tdiv a1 t185), true)) = some (r1, r2, r3) := by rw [if_pos rfl] at H; exact H
     clear H
     have H := H1
     clear H1
     simp only [Option.some.injEq, Prod.mk.injEq] at H
     obtain ⟨rfl, rfl, rfl⟩ := H
     go_enter Try.func129, Try.ntmps129
     try go_wp2_with (first | ((with_reducible refine gate_dst (N := 4) rfl ?_); refine zX 4 (#[.int .i64 0, .int .i64 0]) 27 ?_; intro gb184 hg w35 hbox hb; have BK184 := zA (hbox); have GW184 := zA (zG : w.heap.size ≤ gb184); have GE184 := zA (zG : w.heap.size ≤ gb184); replace HB := zA (below_step zB hb); clear hb hbox hg) | ((with_reducible refine gate_callee (f := 145) rfl ?_); refine goesL_ (some 13) rfl rfl Try.func145 (by kernel_rfl) rfl #[.int .i64 a0, .int .i64 a1] rfl zM ?_; (with_reducible refine (spec_l01Gcd.calls k a0 a1 t185 _ A6.out).mono ?_); rintro e w36 ⟨rfl, hb⟩; refine ⟨_, rfl, ?_⟩; replace BK184 := zA (zW BK184 hb); replace HB := zA (below_step zB hb); (try clear hb); (try clear hb2); (try clear hk); (try clear hi)))
     replace BK184 := zA (blk_drew BK184.out)
     replace HB := zA (below_drew1 HB.out)
     refine start_ (n := 9) (S := fun w' => True) (ds := []) #[false, false, false, false, false, false, false, false, false] (by kernel_rfl) rfl rfl trivial (fun hHeld => ?_); refine with_tabW spec_l01Frac.tab6 spec_l01Frac.bits6 (fun HT_ HW_ => ?_)
     generalize w36.drew = w37 at BK184 HB hHeld ⊢
     refine zP 0 (N := some 18) (h := ?_)
     refine zP 1 (N := some 19) (h := ?_)
     refine zP 2 (N := some 20) (h := ?_)
     refine zP 3 (N := some 21) (h := ?_)
     refine zP 4 (N := some 22) (h := ?_)
     refine zP 5 (N := some 23) (h := ?_)
     refine zP 6 (N := some 24) (h := ?_)
     refine one_ (i := 7) (N := some 7) #[true, true, true, true, true, true, true, true, false] rfl rfl (one_of HT_.out (by kernel_rfl)) (by decide) (fun K hK => ?_)
     refine box_step ?hg (N := 7) ?hd (cs := #[.int .i64 0, .int .i64 0]) (t := 27) ?hr ?_; (case hd => rfl); (case hg => rfl); (case hr => (go_simp; done))
     intro gb188 hg w38 hbox hb
     have BK188 := zA (hbox)
     have GW188 := zA (zG : w.heap.size ≤ gb188)
     have GE188 := zA (zG : w.heap.size ≤ gb188)
     have NB184_188 := zA (zU BK184 hg)
     have NB188_184 := zA (zV BK184 hg)
     replace BK184 := zA (zW BK184 hb)
     replace HB := zA (below_step zB hb)
     clear hb hbox hg
     refine hK.out _ _ trivial (fun hHeld => ?_)
     clear hK K
     refine norm_ (a' := ?_) ?_ ?_
     rotate_left
     ·show Act.put _ (some 7) _ = _
      simp only [Act.put, List.setIfInBounds_toArray, List.set, i64_w, i32_w]
      rfl
     refine one_ (i := 8) (N := none) #[true, true, true, true, true, true, true, true, true] rfl rfl (one_of HT_.out (by kernel_rfl)) (by decide) (fun K hK => ?_)
     have hs39 : w38.cell? ⟨gb188, 0, none⟩ = some (.int .i64 0) := (blk_cell BK188.out 0).trans rfl
     have hfs39 := blk_frozen BK188.out 0
     have hns39_0 := NB184_188.out
     have hms39_0 := NB188_184.out
     have hs40 : w38.cell? ⟨gb188, 1, none⟩ = some (.int .i64 0) := (blk_cell BK188.out 1).trans rfl
     have hfs40 := blk_frozen BK188.out 1
     have hns40_0 := NB184_188.out
     have hms40_0 := NB188_184.out
     refine skip_ (w1 := ?_) (by rfl) rfl ?_ ?_
     rotate_left
     ·go_simp
      rfl
     refine hK.out _ _ trivial (fun hHeld => ?_)
     clear hK K
     refine done_ (done_of HT_.out (by kernel_rfl)) ?_
     have hnb41 := NB188_184.out
     have hnc41 := NB184_188.out
     obtain ⟨hcz42_0, hcz42_1, hfz42_0, hfz42_1⟩ := zC2 BK188
     try go_wp2_with (first | ((with_reducible refine gate_callee (f := 103) rfl ?_); refine goesL_ (some 26) rfl rfl Try.func103 (by kernel_rfl) rfl #[.agg #[.int .i64 (wrap64 (Int.tdiv a0 t185)), .int .i64 (wrap64 (Int.tdiv a1 t185))]] rfl zM ?_; (with_reducible refine (spec_l01IsFrac.calls k (wrap64 (Int.tdiv a0 t185)) (wrap64 (Int.tdiv a1 t185)) true _ A33.out).mono ?_); rintro e w43 ⟨rfl, hb⟩; refine ⟨_, rfl, ?_⟩; replace BK184 := zA (blk_below (g := gb184) (o := .cells #[.int .i64 0, .int .i64 0] 27 (0, 0)) (by refine blk_far ?_ NB184_188.out _; refine blk_far ?_ NB184_188.out _; exact zK) hb); replace BK188 := zA (blk_below (g := gb188) (o := .cells #[.int .i64 (wrap64 (Int.tdiv a0 t185)), .int .i64 (wrap64 (Int.tdiv a1 t185))] 27 (0, 0)) (by refine blk_put (cs := #[.int .i64 (wrap64 (Int.tdiv a0 t185)), .int .i64 0]) ?_ 1 _ rfl; refine blk_put (cs := #[.int .i64 0, .int .i64 0]) ?_ 0 _ rfl; exact zK) hb); replace HB := zA (below_step zB hb); (try clear hb); (try clear hb2); (try clear hk); (try clear hi); obtain ⟨hcz44_0, hcz44_1, hfz44_0, hfz44_1⟩ := zC2 BK188; obtain ⟨hcz45_0, hcz45_1, hfz45_0, hfz45_1⟩ := zC2 BK184))
     refine bodyPost_ret (results_ct rfl _ _ gb184 27 #[.int .i64 (wrap64 (Int.tdiv a0 t185)), .int .i64 (wrap64 (Int.tdiv a1 t185))] (0, 0) _ rfl (by refine blk_put (cs := #[.int .i64 (wrap64 (Int.tdiv a0 t185)), .int .i64 0]) ?_ 1 _ rfl; refine blk_put (cs := #[.int .i64 0, .int .i64 0]) ?_ 0 _ rfl; exact zK) Try.underlying27 rfl (by kernel_rfl)) rfl ?_
     exact ⟨by rfl, zB⟩
    ·replace c34 := Bool.eq_false_iff.mpr c34
     subst c34
     have H1 : (some (0, 0, false)) = some (r1, r2, r3) := by rw [if_neg (show ¬ (false = true) by decide)] at H; exact H
     clear H
     have H := H1
     clear H1
     simp only [Option.some.injEq, Prod.mk.injEq] at H
     obtain ⟨rfl, rfl, rfl⟩ := H
     go_enter Try.func129, Try.ntmps129
     try go_wp2_with (first | ((with_reducible refine gate_dst (N := 4) rfl ?_); refine zX 4 (#[.int .i64 0, .int .i64 0]) 27 ?_; intro gb184 hg w46 hbox hb; have BK184 := zA (hbox); have GW184 := zA (zG : w.heap.size ≤ gb184); have GE184 := zA (zG : w.heap.size ≤ gb184); replace HB := zA (below_step zB hb); clear hb hbox hg) | ((with_reducible refine gate_callee (f := 145) rfl ?_); refine goesL_ (some 13) rfl rfl Try.func145 (by kernel_rfl) rfl #[.int .i64 a0, .int .i64 a1] rfl zM ?_; (with_reducible refine (spec_l01Gcd.calls k a0 a1 t185 _ A6.out).mono ?_); rintro e w47 ⟨rfl, hb⟩; refine ⟨_, rfl, ?_⟩; replace BK184 := zA (zW BK184 hb); replace HB := zA (below_step zB hb); (try clear hb); (try clear hb2); (try clear hk); (try clear hi)))
     replace BK184 := zA (blk_drew BK184.out)
     replace HB := zA (below_drew1 HB.out)
     refine start_ (n := 9) (S := fun w' => True) (ds := []) #[false, false, false, false, false, false, false, false, false] (by kernel_rfl) rfl rfl trivial (fun hHeld => ?_); refine with_tabW spec_l01Frac.tab6 spec_l01Frac.bits6 (fun HT_ HW_ => ?_)
     generalize w47.drew = w48 at BK184 HB hHeld ⊢
     refine zP 0 (N := some 18) (h := ?_)
     refine zP 1 (N := some 19) (h := ?_)
     refine zP 2 (N := some 20) (h := ?_)
     refine zP 3 (N := some 21) (h := ?_)
     refine zP 4 (N := some 22) (h := ?_)
     refine zP 5 (N := some 23) (h := ?_)
     refine zP 6 (N := some 24) (h := ?_)
     refine one_ (i := 7) (N := some 7) #[true, true, true, true, true, true, true, true, false] rfl rfl (one_of HT_.out (by kernel_rfl)) (by decide) (fun K hK => ?_)
     refine box_step ?hg (N := 7) ?hd (cs := #[.int .i64 0, .int .i64 0]) (t := 27) ?hr ?_; (case hd => rfl); (case hg => rfl); (case hr => (go_simp; done))
     intro gb188 hg w49 hbox hb
     have BK188 := zA (hbox)
     have GW188 := zA (zG : w.heap.size ≤ gb188)
     have GE188 := zA (zG : w.heap.size ≤ gb188)
     have NB184_188 := zA (zU BK184 hg)
     have NB188_184 := zA (zV BK184 hg)
     replace BK184 := zA (zW BK184 hb)
     replace HB := zA (below_step zB hb)
     clear hb hbox hg
     refine hK.out _ _ trivial (fun hHeld => ?_)
     clear hK K
     refine norm_ (a' := ?_) ?_ ?_
     rotate_left
     ·show Act.put _ (some 7) _ = _
      simp only [Act.put, List.setIfInBounds_toArray, List.set, i64_w, i32_w]
      rfl
     refine one_ (i := 8) (N := none) #[true, true, true, true, true, true, true, true, true] rfl rfl (one_of HT_.out (by kernel_rfl)) (by decide) (fun K hK => ?_)
     have hs50 : w49.cell? ⟨gb188, 0, none⟩ = some (.int .i64 0) := (blk_cell BK188.out 0).trans rfl
     have hfs50 := blk_frozen BK188.out 0
     have hns50_0 := NB184_188.out
     have hms50_0 := NB188_184.out
     have hs51 : w49.cell? ⟨gb188, 1, none⟩ = some (.int .i64 0) := (blk_cell BK188.out 1).trans rfl
     have hfs51 := blk_frozen BK188.out 1
     have hns51_0 := NB184_188.out
     have hms51_0 := NB188_184.out
     refine skip_ (w1 := ?_) (by rfl) rfl ?_ ?_
     rotate_left
     ·go_simp
      rfl
     refine hK.out _ _ trivial (fun hHeld => ?_)
     clear hK K
     refine done_ (done_of HT_.out (by kernel_rfl)) ?_
     have hnb52 := NB188_184.out
     have hnc52 := NB184_188.out
     obtain ⟨hcz53_0, hcz53_1, hfz53_0, hfz53_1⟩ := zC2 BK188
     try go_wp2_with (first | ((with_reducible refine gate_callee (f := 103) rfl ?_); refine goesL_ (some 26) rfl rfl Try.func103 (by kernel_rfl) rfl #[.agg #[.int .i64 (wrap64 (Int.tdiv a0 t185)), .int .i64 (wrap64 (Int.tdiv a1 t185))]] rfl zM ?_; (with_reducible refine (spec_l01IsFrac.calls k (wrap64 (Int.tdiv a0 t185)) (wrap64 (Int.tdiv a1 t185)) false _ A33.out).mono ?_); rintro e w54 ⟨rfl, hb⟩; refine ⟨_, rfl, ?_⟩; replace BK184 := zA (blk_below (g := gb184) (o := .cells #[.int .i64 0, .int .i64 0] 27 (0, 0)) (by refine blk_far ?_ NB184_188.out _; refine blk_far ?_ NB184_188.out _; exact zK) hb); replace BK188 := zA (blk_below (g := gb188) (o := .cells #[.int .i64 (wrap64 (Int.tdiv a0 t185)), .int .i64 (wrap64 (Int.tdiv a1 t185))] 27 (0, 0)) (by refine blk_put (cs := #[.int .i64 (wrap64 (Int.tdiv a0 t185)), .int .i64 0]) ?_ 1 _ rfl; refine blk_put (cs := #[.int .i64 0, .int .i64 0]) ?_ 0 _ rfl; exact zK) hb); replace HB := zA (below_step zB hb); (try clear hb); (try clear hb2); (try clear hk); (try clear hi); obtain ⟨hcz55_0, hcz55_1, hfz55_0, hfz55_1⟩ := zC2 BK184))
     refine bodyPost_ret (results_ct rfl _ _ gb184 27 #[.int .i64 0, .int .i64 0] (0, 0) _ rfl (by refine blk_put (cs := #[.int .i64 0, .int .i64 0]) ?_ 1 _ rfl; refine blk_put (cs := #[.int .i64 0, .int .i64 0]) ?_ 0 _ rfl; exact zK) Try.underlying27 rfl (by kernel_rfl)) rfl ?_
     exact ⟨by rfl, zB⟩

/-! ### spec_l01Plus: function 109 -/
def spec_l01Plus.f (k : Nat) (a0_0 : Int) (a0_1 : Int) (a1_0 : Int) (a1_1 : Int) : Option (Int × Int × Bool) := (spec_l01Frac.f k (wrap64 ((wrap64 (a0_0 * a1_1)) + (wrap64 (a1_0 * a0_1)))) (wrap64 (a0_1 * a1_1))).bind fun bt193 => (some (bt193.1, bt193.2.1, bt193.2.2))
theorem spec_l01Plus.calls (k : Nat) (a0_0 : Int) (a0_1 : Int) (a1_0 : Int) (a1_1 : Int) (r1 : Int) (r2 : Int) (r3 : Bool) (w : World) (h : spec_l01Plus.f k a0_0 a0_1 a1_0 a1_1 = some (r1, r2, r3)) :
 Calls Try.prog 109 #[.agg #[.int .i64 a0_0, .int .i64 a0_1], .agg #[.int .i64 a1_0, .int .i64 a1_1]] w fun e w' => e = .returned (.tuple #[.agg #[.int .i64 r1, .int .i64 r2], .bool r3]) ∧ Below w.heap.size w w' := by
 have hu27 := Try.underlying27
 have HB := zA (Below.refl w.heap.size w)
 have H : ((spec_l01Frac.f k (wrap64 ((wrap64 (a0_0 * a1_1)) + (wrap64 (a1_0 * a0_1)))) (wrap64 (a0_1 * a1_1))).bind fun bt193 => (some (bt193.1, bt193.2.1, bt193.2.2))) = some (r1, r2, r3) := h
 clear h
 replace H := Option.bind_eq_some_iff.mp H
 obtain ⟨⟨t193, t194, t195⟩, A30, H⟩ := H
 replace H : (some (t193, t194, t195)) = some (r1, r2, r3) := H
 have A3 := zA A30
 clear A30
 simp only [Option.some.injEq, Prod.mk.injEq] at H
 obtain ⟨rfl, rfl, rfl⟩ := H
 go_enter Try.func109, Try.ntmps109
 go_wp2_with (first | ((with_reducible refine gate_dst (N := 2) rfl ?_); refine zX 2 (#[.int .i64 a0_0, .int .i64 a0_1]) 27 ?_; intro gb190 hg w4 hbox hb; have BK190 := zA (hbox); have GW190 := zA (zG : w.heap.size ≤ gb190); have GE190 := zA (zG : w.heap.size ≤ gb190); replace HB := zA (below_step zB hb); clear hb hbox hg) | ((with_reducible refine gate_dst (N := 3) rfl ?_); refine zX 3 (#[.int .i64 a1_0, .int .i64 a1_1]) 27 ?_; intro gb191 hg w5 hbox hb; have BK191 := zA (hbox); have GW191 := zA (zG : w.heap.size ≤ gb191); have GE191 := zA (zG : w.heap.size ≤ gb191); have NB190_191 := zA (zU BK190 hg); have NB191_190 := zA (zV BK190 hg); replace BK190 := zA (zW BK190 hb); replace HB := zA (below_step zB hb); clear hb hbox hg) | ((with_reducible refine gate_dst (N := 4) rfl ?_); refine zX 4 (#[.int .i64 0, .int .i64 0]) 27 ?_; intro gb192 hg w6 hbox hb; have BK192 := zA (hbox); have GW192 := zA (zG : w.heap.size ≤ gb192); have GE192 := zA (zG : w.heap.size ≤ gb192); have NB190_192 := zA (zU BK190 hg); have NB192_190 := zA (zV BK190 hg); have NB191_192 := zA (zU BK191 hg); have NB192_191 := zA (zV BK191 hg); replace BK190 := zA (zW BK190 hb); replace BK191 := zA (zW BK191 hb); replace HB := zA (below_step zB hb); clear hb hbox hg; have hnb7 := NB190_191.out; have hnc7 := NB191_190.out; have hnb8 := NB190_192.out; have hnc8 := NB192_190.out; obtain ⟨hcz9_0, hcz9_1, hfz9_0, hfz9_1⟩ := zC2 BK190; have hnb10 := NB191_192.out; have hnc10 := NB192_191.out; obtain ⟨hcz11_0, hcz11_1, hfz11_0, hfz11_1⟩ := zC2 BK191) | ((with_reducible refine gate_callee (f := 129) rfl ?_); refine goesL_ (some 25) rfl rfl Try.func129 (by kernel_rfl) rfl #[.int .i64 (wrap64 ((wrap64 (a0_0 * a1_1)) + (wrap64 (a1_0 * a0_1)))), .int .i64 (wrap64 (a0_1 * a1_1))] rfl zM ?_; (with_reducible refine (spec_l01Frac.calls k (wrap64 ((wrap64 (a0_0 * a1_1)) + (wrap64 (a1_0 * a0_1)))) (wrap64 (a0_1 * a1_1)) t193 t194 t195 _ A3.out).mono ?_); rintro e w12 ⟨rfl, hb⟩; refine ⟨_, rfl, ?_⟩; replace BK190 := zA (zW BK190 hb); replace BK191 := zA (zW BK191 hb); replace BK192 := zA (zW BK192 hb); replace HB := zA (below_step zB hb); (try clear hb); (try clear hb2); (try clear hk); (try clear hi)) | ((with_reducible refine gate_dst (N := 6) rfl ?_); refine zX 6 (#[.int .i64 0, .int .i64 0]) 27 ?_; intro gb196 hg w13 hbox hb; have BK196 := zA (hbox); have GW196 := zA (zG : w.heap.size ≤ gb196); have GE196 := zA (zG : w.heap.size ≤ gb196); have NB190_196 := zA (zU BK190 hg); have NB196_190 := zA (zV BK190 hg); have NB191_196 := zA (zU BK191 hg); have NB196_191 := zA (zV BK191 hg); have NB192_196 := zA (zU BK192 hg); have NB196_192 := zA (zV BK192 hg); replace BK190 := zA (zW BK190 hb); replace BK191 := zA (zW BK191 hb); replace BK192 := zA (zW BK192 hb); replace HB := zA (below_step zB hb); clear hb hbox hg; have hnb14 := NB196_190.out; have hnc14 := NB190_196.out; have hnb15 := NB196_191.out; have hnc15 := NB191_196.out; have hnb16 := NB196_192.out; have hnc16 := NB192_196.out; obtain ⟨hcz17_0, hcz17_1, hfz17_0, hfz17_1⟩ := zC2 BK196; obtain ⟨hcz18_0, hcz18_1, hfz18_0, hfz18_1⟩ := zC2 BK192))
 refine bodyPost_ret (results_ct rfl _ _ gb192 27 #[.int .i64 t193, .int .i64 t194] (0, 0) _ rfl (by refine blk_put (cs := #[.int .i64 t193, .int .i64 0]) ?_ 1 _ rfl; refine blk_put (cs := #[.int .i64 0, .int .i64 0]) ?_ 0 _ rfl; refine blk_far ?_ NB192_196.out _; refine blk_far ?_ NB192_196.out _; exact zK) Try.underlying27 rfl (by kernel_rfl)) rfl ?_
 exact ⟨by rfl, zB⟩

end Go.Proofs.Ytcklefgkbddlhaa.P
