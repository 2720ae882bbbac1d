/- What a call of each Go function named below comes to is what the plain Lean function beside it says. Made by a program of this session out of the print of the translation; Lean checks it. -/
import Derived.Test.YtcklefgkbddlhaaPx0
import Derived.Test.YtcklefgkbddlhaaPx10
import Derived.Test.YtcklefgkbddlhaaPx12
namespace Go.Proofs.Ytcklefgkbddlhaa.P
open Go.RowKit Go.Proofs.YtcklefgkbddlhaaW.PrintWords Go.Proofs.YtcklefgkbddlhaaW.PrintLast Go.Proofs.YtcklefgkbddlhaaW.PrintMore
attribute [local go_sem] max2_int min2_int max_two min_two max_three min_three max_four min_four   -- for this text's walks alone
set_option linter.unusedVariables false
set_option linter.unusedSimpArgs false
set_option maxHeartbeats 8000000
set_option maxRecDepth 100000


/-! ### impl_reduced: function 159 -/
def impl_reduced.f (k : Nat) (a0 : Int) (a1 : Int) : Option (Int × Int × Bool) := (impl_common.f k a0 a1).bind fun t412 => (if a1 < 0 then (if (wrap64 (-t412)) = 0 then (none) else ((impl_IsFraction.f k (wrap64 (Int.tdiv a0 (wrap64 (-t412)))) (wrap64 (Int.tdiv a1 (wrap64 (-t412))))).bind fun t414 => (some (wrap64 (Int.tdiv a0 (wrap64 (-t412))), wrap64 (Int.tdiv a1 (wrap64 (-t412))), t414)))) else (if t412 = 0 then (none) else ((impl_IsFraction.f k (wrap64 (Int.tdiv a0 t412)) (wrap64 (Int.tdiv a1 t412))).bind fun t416 => (some (wrap64 (Int.tdiv a0 t412), wrap64 (Int.tdiv a1 t412), t416)))))
def impl_reduced.T4 : Bool × List (List Nat × List Nat) := (true, [([], []), ([], []), ([0, 1], [0, 1]), ([], []), ([], []), ([3, 4], [3, 4]), ([2, 5], [2, 5]), ([], []), ([7, 6, 0, 1, 2, 3, 4, 5, 6, 7], [6, 7])])
def impl_reduced.B4 : List Nat := [0, 0, 3, 0, 0, 24, 63, 0, 255]
theorem impl_reduced.tab4 : rtab .any (opsOf Try.f159 4) = impl_reduced.T4 := by kernel_rfl
theorem impl_reduced.bits4 : waitsOk impl_reduced.T4.2 impl_reduced.B4 = true := by kernel_rfl
theorem impl_reduced.calls (k : Nat) (a0 : Int) (a1 : Int) (r1 : Int) (r2 : Int) (r3 : Bool) (w : World) (h : impl_reduced.f k a0 a1 = some (r1, r2, r3)) :
 Calls Try.prog 159 #[.int .i64 a0, .int .i64 a1] w fun e w' => e = .returned (.tuple #[.agg #[.int .i64 r1, .int .i64 r2], .bool r3]) ∧ Below w.heap.size w w' := by
 have hu27 := Try.underlying27
 have HB := zA (Below.refl w.heap.size w)
 have H : ((impl_common.f k a0 a1).bind fun t412 => (if a1 < 0 then (if (wrap64 (-t412)) = 0 then (none) else ((impl_IsFraction.f k (wrap64 (Int.tdiv a0 (wrap64 (-t412)))) (wrap64 (Int.tdiv a1 (wrap64 (-t412))))).bind fun t414 => (some (wrap64 (Int.tdiv a0 (wrap64 (-t412))), wrap64 (Int.tdiv a1 (wrap64 (-t412))), t414)))) else (if t412 = 0 then (none) else ((impl_IsFraction.f k (wrap64 (Int.tdiv a0 t412)) (wrap64 (Int.tdiv a1 t412))).bind fun t416 => (some (wrap64 (Int.tdiv a0 t412), wrap64 (Int.tdiv a1 t412), t416)))))) = some (r1, r2, r3) := h
 clear h
 replace H := Option.bind_eq_some_iff.mp H
 obtain ⟨t412, A30, H⟩ := H
 replace H : (if a1 < 0 then (if (wrap64 (-t412)) = 0 then (none) else ((impl_IsFraction.f k (wrap64 (Int.tdiv a0 (wrap64 (-t412)))) (wrap64 (Int.tdiv a1 (wrap64 (-t412))))).bind fun t414 => (some (wrap64 (Int.tdiv a0 (wrap64 (-t412))), wrap64 (Int.tdiv a1 (wrap64 (-t412))), t414)))) else (if t412 = 0 then (none) else ((impl_IsFraction.f k (wrap64 (Int.tdiv a0 t412)) (wrap64 (Int.tdiv a1 t412))).bind fun t416 => (some (wrap64 (Int.tdiv a0 t412), wrap64 (Int.tdiv a1 t412), t416))))) = some (r1, r2, r3) := H
 have A3 := zA A30
 clear A30
 by_cases c4 : a1 < 0
 ·rw [if_pos c4] at H
  have c4b0 : decide (a1 < 0) = true := decide_eq_true c4
  clear c4
  by_cases c5 : (wrap64 (-t412)) = 0
  ·rw [if_pos c5] at H
   exact absurd H (by simp)
  ·rw [if_neg c5] at H
   have c5b0 : ((wrap64 (-t412)) == 0) = false := beq_eq_false_iff_ne.mpr c5
   have c5b1 : ((wrap64 (-t412)) != 0) = true := bne_iff_ne.mpr c5
   replace H := Option.bind_eq_some_iff.mp H
   obtain ⟨t414, A60, H⟩ := H
   replace H : (some (wrap64 (Int.tdiv a0 (wrap64 (-t412))), wrap64 (Int.tdiv a1 (wrap64 (-t412))), t414)) = some (r1, r2, r3) := H
   have A6 := zA A60
   clear A60
   simp only [Option.some.injEq, Prod.mk.injEq] at H
   obtain ⟨rfl, rfl, rfl⟩ := H
   go_enter Try.func159, Try.ntmps159
   try go_wp2_with (first | ((with_reducible refine gate_dst (N := 4) rfl ?_); refine zX 4 (#[.int .i64 0, .int .i64 0]) 27 ?_; intro gb411 hg w7 hbox hb; have BK411 := zA (hbox); have GW411 := zA (zG : w.heap.size ≤ gb411); have GE411 := zA (zG : w.heap.size ≤ gb411); replace HB := zA (below_step zB hb); clear hb hbox hg) | ((with_reducible refine gate_callee (f := 158) rfl ?_); refine goesL_ (some 10) rfl rfl Try.func158 (by kernel_rfl) rfl #[.int .i64 a0, .int .i64 a1] rfl zM ?_; (with_reducible refine (impl_common.calls k a0 a1 t412 _ A3.out).mono ?_); rintro e w8 ⟨rfl, hb⟩; refine ⟨_, rfl, ?_⟩; replace BK411 := zA (zW BK411 hb); replace HB := zA (below_step zB hb); (try clear hb); (try clear hb2); (try clear hk); (try clear hi)))
   replace BK411 := zA (blk_drew BK411.out)
   replace HB := zA (below_drew1 HB.out)
   refine start_ (n := 9) (S := fun w' => True) (ds := []) #[false, false, false, false, false, false, false, false, false] (by kernel_rfl) rfl rfl trivial (fun hHeld => ?_); refine with_tabW impl_reduced.tab4 impl_reduced.bits4 (fun HT_ HW_ => ?_)
   generalize w8.drew = w9 at BK411 HB hHeld ⊢
   refine zP 0 (N := some 15) (h := ?_)
   refine zP 1 (N := some 16) (h := ?_)
   refine zP 2 (N := some 17) (h := ?_)
   refine zP 3 (N := some 18) (h := ?_)
   refine zP 4 (N := some 19) (h := ?_)
   refine zP 5 (N := some 20) (h := ?_)
   refine zP 6 (N := some 21) (h := ?_)
   refine one_ (i := 7) (N := some 7) #[true, true, true, true, true, true, true, true, false] rfl rfl (one_of HT_.out (by kernel_rfl)) (by decide) (fun K hK => ?_)
   refine box_step ?hg (N := 7) ?hd (cs := #[.int .i64 0, .int .i64 0]) (t := 27) ?hr ?_; (case hd => rfl); (case hg => rfl); (case hr => (go_simp; done))
   intro gb413 hg w10 hbox hb
   have BK413 := zA (hbox)
   have GW413 := zA (zG : w.heap.size ≤ gb413)
   have GE413 := zA (zG : w.heap.size ≤ gb413)
   have NB411_413 := zA (zU BK411 hg)
   have NB413_411 := zA (zV BK411 hg)
   replace BK411 := zA (zW BK411 hb)
   replace HB := zA (below_step zB hb)
   clear hb hbox hg
   refine hK.out _ _ trivial (fun hHeld => ?_)
   clear hK K
   refine norm_ (a' := ?_) ?_ ?_
   rotate_left
   ·show Act.put _ (some 7) _ = _
    simp only [Act.put, List.setIfInBounds_toArray, List.set, i64_w, i32_w]
    rfl
   refine one_ (i := 8) (N := none) #[true, true, true, true, true, true, true, true, true] rfl rfl (one_of HT_.out (by kernel_rfl)) (by decide) (fun K hK => ?_)
   have hs11 : w10.cell? ⟨gb413, 0, none⟩ = some (.int .i64 0) := (blk_cell BK413.out 0).trans rfl
   have hfs11 := blk_frozen BK413.out 0
   have hns11_0 := NB411_413.out
   have hms11_0 := NB413_411.out
   have hs12 : w10.cell? ⟨gb413, 1, none⟩ = some (.int .i64 0) := (blk_cell BK413.out 1).trans rfl
   have hfs12 := blk_frozen BK413.out 1
   have hns12_0 := NB411_413.out
   have hms12_0 := NB413_411.out
   refine skip_ (w1 := ?_) (by rfl) rfl ?_ ?_
   rotate_left
   ·go_simp
    rfl
   refine hK.out _ _ trivial (fun hHeld => ?_)
   clear hK K
   refine done_ (done_of HT_.out (by kernel_rfl)) ?_
   try go_wp2
   have n0_ : Aside0 (((w10.setCell ⟨gb413, 0, none⟩ (.int .i64 (wrap64 (Int.tdiv a0 (wrap64 (-t412)))))).setCell ⟨gb413, 1, none⟩ (.int .i64 (wrap64 (Int.tdiv a1 (wrap64 (-t412)))))).heap[gb411]? = some (.cells #[.int .i64 0, .int .i64 0] 27 (0, 0))) := ⟨by refine blk_far ?_ NB411_413.out _; refine blk_far ?_ NB411_413.out _; exact BK411.out⟩
   have n1_ : Aside0 (((w10.setCell ⟨gb413, 0, none⟩ (.int .i64 (wrap64 (Int.tdiv a0 (wrap64 (-t412)))))).setCell ⟨gb413, 1, none⟩ (.int .i64 (wrap64 (Int.tdiv a1 (wrap64 (-t412)))))).heap[gb413]? = some (.cells #[.int .i64 (wrap64 (Int.tdiv a0 (wrap64 (-t412)))), .int .i64 (wrap64 (Int.tdiv a1 (wrap64 (-t412))))] 27 (0, 0))) := ⟨by refine blk_put (cs := #[.int .i64 (wrap64 (Int.tdiv a0 (wrap64 (-t412)))), .int .i64 0]) ?_ 1 _ rfl; refine blk_put (cs := #[.int .i64 0, .int .i64 0]) ?_ 0 _ rfl; exact BK413.out⟩
   have n2_ : Aside0 (Below w.heap.size w ((w10.setCell ⟨gb413, 0, none⟩ (.int .i64 (wrap64 (Int.tdiv a0 (wrap64 (-t412)))))).setCell ⟨gb413, 1, none⟩ (.int .i64 (wrap64 (Int.tdiv a1 (wrap64 (-t412))))))) := ⟨zB⟩
   (try clear BK411)
   (try clear BK413)
   (try clear HB)
   generalize ((w10.setCell ⟨gb413, 0, none⟩ (.int .i64 (wrap64 (Int.tdiv a0 (wrap64 (-t412)))))).setCell ⟨gb413, 1, none⟩ (.int .i64 (wrap64 (Int.tdiv a1 (wrap64 (-t412)))))) = w13 at n0_ n1_ n2_ ⊢
   have BK411 := n0_
   have BK413 := n1_
   have HB := n2_
   clear n0_ n1_ n2_
   replace BK411 := zA (blk_drew BK411.out)
   replace BK413 := zA (blk_drew BK413.out)
   replace HB := zA (below_drew1 HB.out)
   refine start_ (n := 5) (S := fun w' => w'.cell? ⟨gb413, 0, none⟩ = some (.int .i64 (wrap64 (Int.tdiv a0 (wrap64 (-t412))))) ∧ w'.cell? ⟨gb413, 1, none⟩ = some (.int .i64 (wrap64 (Int.tdiv a1 (wrap64 (-t412)))))) (ds := []) #[false, false, false, false, false] (by kernel_rfl) rfl rfl ⟨(blk_cell BK413.out 0).trans rfl, (blk_cell BK413.out 1).trans rfl⟩ (fun hHeld => ?_)
   generalize w13.drew = w14 at BK411 BK413 HB hHeld ⊢
   refine zT 0 hHeld (N := some 22) (h := ?_)
   refine zT 1 hHeld (N := some 23) (h := ?_)
   refine one_ (i := 2) (N := some 24) #[true, true, true, false, false] rfl rfl (by kernel_rfl) (by decide) (fun K hK => ?_)
   refine goes_ Try.func154 (by kernel_rfl) rfl #[.agg #[.int .i64 (wrap64 (Int.tdiv a0 (wrap64 (-t412)))), .int .i64 (wrap64 (Int.tdiv a1 (wrap64 (-t412))))]] (by rfl) rfl rfl zM ?_
   with_reducible refine (impl_IsFraction.calls k (wrap64 (Int.tdiv a0 (wrap64 (-t412)))) (wrap64 (Int.tdiv a1 (wrap64 (-t412)))) t414 _ A6.out).mono ?_
   rintro e w15 ⟨rfl, hb⟩
   refine ⟨_, rfl, ?_⟩
   replace BK411 := zA (zW BK411 hb)
   replace BK413 := zA (zW BK413 hb)
   replace HB := zA (below_step zB hb)
   (try clear hb)
   (try clear hb2)
   (try clear hk)
   (try clear hi)
   refine hK.out _ _ ⟨(blk_cell BK413.out 0).trans rfl, (blk_cell BK413.out 1).trans rfl⟩ (fun hHeld => ?_)
   clear hK K
   refine norm_ (a' := ?_) ?_ ?_
   rotate_left
   ·show Act.put _ (some 24) _ = _
    simp only [Act.put, List.setIfInBounds_toArray, List.set, i64_w, i32_w]
    rfl
   refine one_ (i := 3) (N := none) #[true, true, true, true, false] rfl rfl (by kernel_rfl) (by decide) (fun K hK => ?_)
   have hs16 : w15.cell? ⟨gb411, 0, none⟩ = some (.int .i64 0) := (blk_cell BK411.out 0).trans rfl
   have hfs16 := blk_frozen BK411.out 0
   have hns16_1 := NB413_411.out
   have hms16_1 := NB411_413.out
   have hs17 : w15.cell? ⟨gb411, 1, none⟩ = some (.int .i64 0) := (blk_cell BK411.out 1).trans rfl
   have hfs17 := blk_frozen BK411.out 1
   have hns17_1 := NB413_411.out
   have hms17_1 := NB411_413.out
   refine skip_ (w1 := ?_) (by rfl) rfl ?_ ?_
   rotate_left
   ·go_simp
    rfl
   refine hK.out _ _ ⟨((cell_far (p := ⟨gb411, _, none⟩) NB413_411.out _).trans (((cell_far (p := ⟨gb411, _, none⟩) NB413_411.out _).trans (hHeld.1)))), ((cell_far (p := ⟨gb411, _, none⟩) NB413_411.out _).trans (((cell_far (p := ⟨gb411, _, none⟩) NB413_411.out _).trans (hHeld.2))))⟩ (fun hHeld => ?_)
   clear hK K
   refine zP 4 (N := some 5) (h := ?_)
   refine done_ (by kernel_rfl) ?_
   try go_wp2
   refine bodyPost_ret (results_ct rfl _ _ gb411 27 #[.int .i64 (wrap64 (Int.tdiv a0 (wrap64 (-t412)))), .int .i64 (wrap64 (Int.tdiv a1 (wrap64 (-t412))))] (0, 0) _ rfl (by refine blk_put (cs := #[.int .i64 (wrap64 (Int.tdiv a0 (wrap64 (-t412)))), .int .i64 0]) ?_ 1 _ rfl; refine blk_put (cs := #[.int .i64 0, .int .i64 0]) ?_ 0 _ rfl; exact zK) Try.underlying27 rfl (by kernel_rfl)) rfl ?_
   exact ⟨by rfl, zB⟩
 ·rw [if_neg c4] at H
  have c4b0 : decide (a1 < 0) = false := decide_eq_false c4
  clear c4
  by_cases c18 : t412 = 0
  ·rw [if_pos c18] at H
   exact absurd H (by simp)
  ·rw [if_neg c18] at H
   have c18b0 : (t412 == 0) = false := beq_eq_false_iff_ne.mpr c18
   have c18b1 : (t412 != 0) = true := bne_iff_ne.mpr c18
   replace H := Option.bind_eq_some_iff.mp H
   obtain ⟨t416, A190, H⟩ := H
   replace H : (some (wrap64 (Int.tdiv a0 t412), wrap64 (Int.tdiv a1 t412), t416)) = some (r1, r2, r3) := H
   have A19 := zA A190
   clear A190
   simp only [Option.some.injEq, Prod.mk.injEq] at H
   obtain ⟨rfl, rfl, rfl⟩ := H
   go_enter Try.func159, Try.ntmps159
   try go_wp2_with (first | ((with_reducible refine gate_dst (N := 4) rfl ?_); refine zX 4 (#[.int .i64 0, .int .i64 0]) 27 ?_; intro gb411 hg w20 hbox hb; have BK411 := zA (hbox); have GW411 := zA (zG : w.heap.size ≤ gb411); have GE411 := zA (zG : w.heap.size ≤ gb411); replace HB := zA (below_step zB hb); clear hb hbox hg) | ((with_reducible refine gate_callee (f := 158) rfl ?_); refine goesL_ (some 10) rfl rfl Try.func158 (by kernel_rfl) rfl #[.int .i64 a0, .int .i64 a1] rfl zM ?_; (with_reducible refine (impl_common.calls k a0 a1 t412 _ A3.out).mono ?_); rintro e w21 ⟨rfl, hb⟩; refine ⟨_, rfl, ?_⟩; replace BK411 := zA (zW BK411 hb); replace HB := zA (below_step zB hb); (try clear hb); (try clear hb2); (try clear hk); (try clear hi)))
   replace BK411 := zA (blk_drew BK411.out)
   replace HB := zA (below_drew1 HB.out)
   refine start_ (n := 9) (S := fun w' => True) (ds := []) #[false, false, false, false, false, false, false, false, false] (by kernel_rfl) rfl rfl trivial (fun hHeld => ?_); refine with_tabW impl_reduced.tab4 impl_reduced.bits4 (fun HT_ HW_ => ?_)
   generalize w21.drew = w22 at BK411 HB hHeld ⊢
   refine zP 0 (N := some 15) (h := ?_)
   refine zP 1 (N := some 16) (h := ?_)
   refine zP 2 (N := some 17) (h := ?_)
   refine zP 3 (N := some 18) (h := ?_)
   refine zP 4 (N := some 19) (h := ?_)
   refine zP 5 (N := some 20) (h := ?_)
   refine zP 6 (N := some 21) (h := ?_)
   refine one_ (i := 7) (N := some 7) #[true, true, true, true, true, true, true, true, false] rfl rfl (one_of HT_.out (by kernel_rfl)) (by decide) (fun K hK => ?_)
   refine box_step ?hg (N := 7) ?hd (cs := #[.int .i64 0, .int .i64 0]) (t := 27) ?hr ?_; (case hd => rfl); (case hg => rfl); (case hr => (go_simp; done))
   intro gb415 hg w23 hbox hb
   have BK415 := zA (hbox)
   have GW415 := zA (zG : w.heap.size ≤ gb415)
   have GE415 := zA (zG : w.heap.size ≤ gb415)
   have NB411_415 := zA (zU BK411 hg)
   have NB415_411 := zA (zV BK411 hg)
   replace BK411 := zA (zW BK411 hb)
   replace HB := zA (below_step zB hb)
   clear hb hbox hg
   refine hK.out _ _ trivial (fun hHeld => ?_)
   clear hK K
   refine norm_ (a' := ?_) ?_ ?_
   rotate_left
   ·show Act.put _ (some 7) _ = _
    simp only [Act.put, List.setIfInBounds_toArray, List.set, i64_w, i32_w]
    rfl
   refine one_ (i := 8) (N := none) #[true, true, true, true, true, true, true, true, true] rfl rfl (one_of HT_.out (by kernel_rfl)) (by decide) (fun K hK => ?_)
   have hs24 : w23.cell? ⟨gb415, 0, none⟩ = some (.int .i64 0) := (blk_cell BK415.out 0).trans rfl
   have hfs24 := blk_frozen BK415.out 0
   have hns24_0 := NB411_415.out
   have hms24_0 := NB415_411.out
   have hs25 : w23.cell? ⟨gb415, 1, none⟩ = some (.int .i64 0) := (blk_cell BK415.out 1).trans rfl
   have hfs25 := blk_frozen BK415.out 1
   have hns25_0 := NB411_415.out
   have hms25_0 := NB415_411.out
   refine skip_ (w1 := ?_) (by rfl) rfl ?_ ?_
   rotate_left
   ·go_simp
    rfl
   refine hK.out _ _ trivial (fun hHeld => ?_)
   clear hK K
   refine done_ (done_of HT_.out (by kernel_rfl)) ?_
   try go_wp2
   have n0_ : Aside0 (((w23.setCell ⟨gb415, 0, none⟩ (.int .i64 (wrap64 (Int.tdiv a0 t412)))).setCell ⟨gb415, 1, none⟩ (.int .i64 (wrap64 (Int.tdiv a1 t412)))).heap[gb411]? = some (.cells #[.int .i64 0, .int .i64 0] 27 (0, 0))) := ⟨by refine blk_far ?_ NB411_415.out _; refine blk_far ?_ NB411_415.out _; exact BK411.out⟩
   have n1_ : Aside0 (((w23.setCell ⟨gb415, 0, none⟩ (.int .i64 (wrap64 (Int.tdiv a0 t412)))).setCell ⟨gb415, 1, none⟩ (.int .i64 (wrap64 (Int.tdiv a1 t412)))).heap[gb415]? = some (.cells #[.int .i64 (wrap64 (Int.tdiv a0 t412)), .int .i64 (wrap64 (Int.tdiv a1 t412))] 27 (0, 0))) := ⟨by refine blk_put (cs := #[.int .i64 (wrap64 (Int.tdiv a0 t412)), .int .i64 0]) ?_ 1 _ rfl; refine blk_put (cs := #[.int .i64 0, .int .i64 0]) ?_ 0 _ rfl; exact BK415.out⟩
   have n2_ : Aside0 (Below w.heap.size w ((w23.setCell ⟨gb415, 0, none⟩ (.int .i64 (wrap64 (Int.tdiv a0 t412)))).setCell ⟨gb415, 1, none⟩ (.int .i64 (wrap64 (Int.tdiv a1 t412))))) := ⟨zB⟩
   (try clear BK411)
   (try clear BK415)
   (try clear HB)
   generalize ((w23.setCell ⟨gb415, 0, none⟩ (.int .i64 (wrap64 (Int.tdiv a0 t412)))).setCell ⟨gb415, 1, none⟩ (.int .i64 (wrap64 (Int.tdiv a1 t412)))) = w26 at n0_ n1_ n2_ ⊢
   have BK411 := n0_
   have BK415 := n1_
   have HB := n2_
   clear n0_ n1_ n2_
   replace BK411 := zA (blk_drew BK411.out)
   replace BK415 := zA (blk_drew BK415.out)
   replace HB := zA (below_drew1 HB.out)
   refine start_ (n := 5) (S := fun w' => w'.cell? ⟨gb415, 0, none⟩ = some (.int .i64 (wrap64 (Int.tdiv a0 t412))) ∧ w'.cell? ⟨gb415, 1, none⟩ = some (.int .i64 (wrap64 (Int.tdiv a1 t412)))) (ds := []) #[false, false, false, false, false] (by kernel_rfl) rfl rfl ⟨(blk_cell BK415.out 0).trans rfl, (blk_cell BK415.out 1).trans rfl⟩ (fun hHeld => ?_)
   generalize w26.drew = w27 at BK411 BK415 HB hHeld ⊢
   refine zT 0 hHeld (N := some 22) (h := ?_)
   refine zT 1 hHeld (N := some 23) (h := ?_)
   refine one_ (i := 2) (N := some 24) #[true, true, true, false, false] rfl rfl (by kernel_rfl) (by decide) (fun K hK => ?_)
   refine goes_ Try.func154 (by kernel_rfl) rfl #[.agg #[.int .i64 (wrap64 (Int.tdiv a0 t412)), .int .i64 (wrap64 (Int.tdiv a1 t412))]] (by rfl) rfl rfl zM ?_
   with_reducible refine (impl_IsFraction.calls k (wrap64 (Int.tdiv a0 t412)) (wrap64 (Int.tdiv a1 t412)) t416 _ A19.out).mono ?_
   rintro e w28 ⟨rfl, hb⟩
   refine ⟨_, rfl, ?_⟩
   replace BK411 := zA (zW BK411 hb)
   replace BK415 := zA (zW BK415 hb)
   replace HB := zA (below_step zB hb)
   (try clear hb)
   (try clear hb2)
   (try clear hk)
   (try clear hi)
   refine hK.out _ _ ⟨(blk_cell BK415.out 0).trans rfl, (blk_cell BK415.out 1).trans rfl⟩ (fun hHeld => ?_)
   clear hK K
   refine norm_ (a' := ?_) ?_ ?_
   rotate_left
   ·show Act.put _ (some 24) _ = _
    simp only [Act.put, List.setIfInBounds_toArray, List.set, i64_w, i32_w]
    rfl
   refine one_ (i := 3) (N := none) #[true, true, true, true, false] rfl rfl (by kernel_rfl) (by decide) (fun K hK => ?_)
   have hs29 : w28.cell? ⟨gb411, 0, none⟩ = some (.int .i64 0) := (blk_cell BK411.out 0).trans rfl
   have hfs29 := blk_frozen BK411.out 0
   have hns29_1 := NB415_411.out
   have hms29_1 := NB411_415.out
   have hs30 : w28.cell? ⟨gb411, 1, none⟩ = some (.int .i64 0) := (blk_cell BK411.out 1).trans rfl
   have hfs30 := blk_frozen BK411.out 1
   have hns30_1 := NB415_411.out
   have hms30_1 := NB411_415.out
   refine skip_ (w1 := ?_) (by rfl) rfl ?_ ?_
   rotate_left
   ·go_simp
    rfl
   refine hK.out _ _ ⟨((cell_far (p := ⟨gb411, _, none⟩) NB415_411.out _).trans (((cell_far (p := ⟨gb411, _, none⟩) NB415_411.out _).trans (hHeld.1)))), ((cell_far (p := ⟨gb411, _, none⟩) NB415_411.out _).trans (((cell_far (p := ⟨gb411, _, none⟩) NB415_411.out _).trans (hHeld.2))))⟩ (fun hHeld => ?_)
   clear hK K
   refine zP 4 (N := some 5) (h := ?_)
   refine done_ (by kernel_rfl) ?_
   try go_wp2
   refine bodyPost_ret (results_ct rfl _ _ gb411 27 #[.int .i64 (wrap64 (Int.tdiv a0 t412)), .int .i64 (wrap64 (Int.tdiv a1 t412))] (0, 0) _ rfl (by refine blk_put (cs := #[.int .i64 (wrap64 (Int.tdiv a0 t412)), .int .i64 0]) ?_ 1 _ rfl; refine blk_put (cs := #[.int .i64 0, .int .i64 0]) ?_ 0 _ rfl; exact zK) Try.underlying27 rfl (by kernel_rfl)) rfl ?_
   exact ⟨by rfl, zB⟩

/-! ### impl_Fraction_plus: function 115 -/
def impl_Fraction_plus.f (k : Nat) (a0_0 : Int) (a0_1 : Int) (a1_0 : Int) (a1_1 : Int) : Option (Int × Int × Bool) := (impl_reduced.f k (wrap64 ((wrap64 (a0_0 * a1_1)) + (wrap64 (a1_0 * a0_1)))) (wrap64 (a0_1 * a1_1))).bind fun bt420 => (some (bt420.1, bt420.2.1, bt420.2.2))
theorem impl_Fraction_plus.calls (k : Nat) (a0_0 : Int) (a0_1 : Int) (a1_0 : Int) (a1_1 : Int) (r1 : Int) (r2 : Int) (r3 : Bool) (w : World) (h : impl_Fraction_plus.f k a0_0 a0_1 a1_0 a1_1 = some (r1, r2, r3)) :
 Calls Try.prog 115 #[.agg #[.int .i64 a0_0, .int .i64 a0_1], .agg #[.int .i64 a1_0, .int .i64 a1_1]] w fun e w' => e = .returned (.tuple #[.agg #[.int .i64 r1, .int .i64 r2], .bool r3]) ∧ Below w.heap.size w w' := by
 have hu27 := Try.underlying27
 have HB := zA (Below.refl w.heap.size w)
 have H : ((impl_reduced.f k (wrap64 ((wrap64 (a0_0 * a1_1)) + (wrap64 (a1_0 * a0_1)))) (wrap64 (a0_1 * a1_1))).bind fun bt420 => (some (bt420.1, bt420.2.1, bt420.2.2))) = some (r1, r2, r3) := h
 clear h
 replace H := Option.bind_eq_some_iff.mp H
 obtain ⟨⟨t420, t421, t422⟩, A30, H⟩ := H
 replace H : (some (t420, t421, t422)) = some (r1, r2, r3) := H
 have A3 := zA A30
 clear A30
 simp only [Option.some.injEq, Prod.mk.injEq] at H
 obtain ⟨rfl, rfl, rfl⟩ := H
 go_enter Try.func115, Try.ntmps115
 go_wp2_with (first | ((with_reducible refine gate_dst (N := 2) rfl ?_); refine zX 2 (#[.int .i64 a0_0, .int .i64 a0_1]) 27 ?_; intro gb417 hg w4 hbox hb; have BK417 := zA (hbox); have GW417 := zA (zG : w.heap.size ≤ gb417); have GE417 := zA (zG : w.heap.size ≤ gb417); replace HB := zA (below_step zB hb); clear hb hbox hg) | ((with_reducible refine gate_dst (N := 3) rfl ?_); refine zX 3 (#[.int .i64 a1_0, .int .i64 a1_1]) 27 ?_; intro gb418 hg w5 hbox hb; have BK418 := zA (hbox); have GW418 := zA (zG : w.heap.size ≤ gb418); have GE418 := zA (zG : w.heap.size ≤ gb418); have NB417_418 := zA (zU BK417 hg); have NB418_417 := zA (zV BK417 hg); replace BK417 := zA (zW BK417 hb); replace HB := zA (below_step zB hb); clear hb hbox hg) | ((with_reducible refine gate_dst (N := 4) rfl ?_); refine zX 4 (#[.int .i64 0, .int .i64 0]) 27 ?_; intro gb419 hg w6 hbox hb; have BK419 := zA (hbox); have GW419 := zA (zG : w.heap.size ≤ gb419); have GE419 := zA (zG : w.heap.size ≤ gb419); have NB417_419 := zA (zU BK417 hg); have NB419_417 := zA (zV BK417 hg); have NB418_419 := zA (zU BK418 hg); have NB419_418 := zA (zV BK418 hg); replace BK417 := zA (zW BK417 hb); replace BK418 := zA (zW BK418 hb); replace HB := zA (below_step zB hb); clear hb hbox hg; have hnb7 := NB417_418.out; have hnc7 := NB418_417.out; have hnb8 := NB417_419.out; have hnc8 := NB419_417.out; obtain ⟨hcz9_0, hcz9_1, hfz9_0, hfz9_1⟩ := zC2 BK417; have hnb10 := NB418_419.out; have hnc10 := NB419_418.out; obtain ⟨hcz11_0, hcz11_1, hfz11_0, hfz11_1⟩ := zC2 BK418) | ((with_reducible refine gate_callee (f := 159) rfl ?_); refine goesL_ (some 22) rfl rfl Try.func159 (by kernel_rfl) rfl #[.int .i64 (wrap64 ((wrap64 (a0_0 * a1_1)) + (wrap64 (a1_0 * a0_1)))), .int .i64 (wrap64 (a0_1 * a1_1))] rfl zM ?_; (with_reducible refine (impl_reduced.calls k (wrap64 ((wrap64 (a0_0 * a1_1)) + (wrap64 (a1_0 * a0_1)))) (wrap64 (a0_1 * a1_1)) t420 t421 t422 _ A3.out).mono ?_); rintro e w12 ⟨rfl, hb⟩; refine ⟨_, rfl, ?_⟩; replace BK417 := zA (zW BK417 hb); replace BK418 := zA (zW BK418 hb); replace BK419 := zA (zW BK419 hb); replace HB := zA (below_step zB hb); (try clear hb); (try clear hb2); (try clear hk); (try clear hi); obtain ⟨hcz13_0, hcz13_1, hfz13_0, hfz13_1⟩ := zC2 BK419))
 refine bodyPost_ret (results_ct rfl _ _ gb419 27 #[.int .i64 t420, .int .i64 t421] (0, 0) _ rfl (by refine blk_put (cs := #[.int .i64 t420, .int .i64 0]) ?_ 1 _ rfl; refine blk_put (cs := #[.int .i64 0, .int .i64 0]) ?_ 0 _ rfl; exact zK) Try.underlying27 rfl (by kernel_rfl)) rfl ?_
 exact ⟨by rfl, zB⟩

/-! ### impl_table_check: function 142 -/
-- NOT PRINTED: function 95 (impl_table_add)


/-! ### impl_Fraction_times: function 164 -/
def impl_Fraction_times.f (k : Nat) (a0_0 : Int) (a0_1 : Int) (a1_0 : Int) (a1_1 : Int) : Option (Int × Int × Bool) := (impl_reduced.f k (wrap64 (a0_0 * a1_0)) (wrap64 (a0_1 * a1_1))).bind fun bt441 => (some (bt441.1, bt441.2.1, bt441.2.2))
theorem impl_Fraction_times.calls (k : Nat) (a0_0 : Int) (a0_1 : Int) (a1_0 : Int) (a1_1 : Int) (r1 : Int) (r2 : Int) (r3 : Bool) (w : World) (h : impl_Fraction_times.f k a0_0 a0_1 a1_0 a1_1 = some (r1, r2, r3)) :
 Calls Try.prog 164 #[.agg #[.int .i64 a0_0, .int .i64 a0_1], .agg #[.int .i64 a1_0, .int .i64 a1_1]] w fun e w' => e = .returned (.tuple #[.agg #[.int .i64 r1, .int .i64 r2], .bool r3]) ∧ Below w.heap.size w w' := by
 have hu27 := Try.underlying27
 have HB := zA (Below.refl w.heap.size w)
 have H : ((impl_reduced.f k (wrap64 (a0_0 * a1_0)) (wrap64 (a0_1 * a1_1))).bind fun bt441 => (some (bt441.1, bt441.2.1, bt441.2.2))) = some (r1, r2, r3) := h
 clear h
 replace H := Option.bind_eq_some_iff.mp H
 obtain ⟨⟨t441, t442, t443⟩, A30, H⟩ := H
 replace H : (some (t441, t442, t443)) = some (r1, r2, r3) := H
 have A3 := zA A30
 clear A30
 simp only [Option.some.injEq, Prod.mk.injEq] at H
 obtain ⟨rfl, rfl, rfl⟩ := H
 go_enter Try.func164, Try.ntmps164
 go_wp2_with (first | ((with_reducible refine gate_dst (N := 2) rfl ?_); refine zX 2 (#[.int .i64 a0_0, .int .i64 a0_1]) 27 ?_; intro gb438 hg w4 hbox hb; have BK438 := zA (hbox); have GW438 := zA (zG : w.heap.size ≤ gb438); have GE438 := zA (zG : w.heap.size ≤ gb438); replace HB := zA (below_step zB hb); clear hb hbox hg) | ((with_reducible refine gate_dst (N := 3) rfl ?_); refine zX 3 (#[.int .i64 a1_0, .int .i64 a1_1]) 27 ?_; intro gb439 hg w5 hbox hb; have BK439 := zA (hbox); have GW439 := zA (zG : w.heap.size ≤ gb439); have GE439 := zA (zG : w.heap.size ≤ gb439); have NB438_439 := zA (zU BK438 hg); have NB439_438 := zA (zV BK438 hg); replace BK438 := zA (zW BK438 hb); replace HB := zA (below_step zB hb); clear hb hbox hg) | ((with_reducible refine gate_dst (N := 4) rfl ?_); refine zX 4 (#[.int .i64 0, .int .i64 0]) 27 ?_; intro gb440 hg w6 hbox hb; have BK440 := zA (hbox); have GW440 := zA (zG : w.heap.size ≤ gb440); have GE440 := zA (zG : w.heap.size ≤ gb440); have NB438_440 := zA (zU BK438 hg); have NB440_438 := zA (zV BK438 hg); have NB439_440 := zA (zU BK439 hg); have NB440_439 := zA (zV BK439 hg); replace BK438 := zA (zW BK438 hb); replace BK439 := zA (zW BK439 hb); replace HB := zA (below_step zB hb); clear hb hbox hg; have hnb7 := NB438_439.out; have hnc7 := NB439_438.out; have hnb8 := NB438_440.out; have hnc8 := NB440_438.out; obtain ⟨hcz9_0, hcz9_1, hfz9_0, hfz9_1⟩ := zC2 BK438; have hnb10 := NB439_440.out; have hnc10 := NB440_439.out; obtain ⟨hcz11_0, hcz11_1, hfz11_0, hfz11_1⟩ := zC2 BK439) | ((with_reducible refine gate_callee (f := 159) rfl ?_); refine goesL_ (some 16) rfl rfl Try.func159 (by kernel_rfl) rfl #[.int .i64 (wrap64 (a0_0 * a1_0)), .int .i64 (wrap64 (a0_1 * a1_1))] rfl zM ?_; (with_reducible refine (impl_reduced.calls k (wrap64 (a0_0 * a1_0)) (wrap64 (a0_1 * a1_1)) t441 t442 t443 _ A3.out).mono ?_); rintro e w12 ⟨rfl, hb⟩; refine ⟨_, rfl, ?_⟩; replace BK438 := zA (zW BK438 hb); replace BK439 := zA (zW BK439 hb); replace BK440 := zA (zW BK440 hb); replace HB := zA (below_step zB hb); (try clear hb); (try clear hb2); (try clear hk); (try clear hi); obtain ⟨hcz13_0, hcz13_1, hfz13_0, hfz13_1⟩ := zC2 BK440))
 refine bodyPost_ret (results_ct rfl _ _ gb440 27 #[.int .i64 t441, .int .i64 t442] (0, 0) _ rfl (by refine blk_put (cs := #[.int .i64 t441, .int .i64 0]) ?_ 1 _ rfl; refine blk_put (cs := #[.int .i64 0, .int .i64 0]) ?_ 0 _ rfl; exact zK) Try.underlying27 rfl (by kernel_rfl)) rfl ?_
 exact ⟨by rfl, zB⟩

-- NOT PRINTED: function 138 (impl_table_addTimes)

-- NOT PRINTED: function 90 (impl_table_times)

-- NOT PRINTED: function 176 (impl_table_sum)

-- NOT PRINTED: function 177 (impl_table_scaled)

-- NOT PRINTED: function 165 (impl_table_powers)

-- NOT PRINTED: function 139 (impl_table_exponential)

-- NOT PRINTED: function 91 (impl_stepSignature)


end Go.Proofs.Ytcklefgkbddlhaa.P
