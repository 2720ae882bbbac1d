/- What a call of each Go function named below comes to is what the plain Lean function beside it says. Made by a program of this session out of the print of the translation; Lean checks it. -/
import Derived.Test.YtcklefgkbddlhaaPx0
import Derived.Test.YtcklefgkbddlhaaPx9
import Derived.Test.YtcklefgkbddlhaaPx10
namespace Go.Proofs.Ytcklefgkbddlhaa.P
open Go.RowKit Go.Proofs.YtcklefgkbddlhaaW.PrintWords Go.Proofs.YtcklefgkbddlhaaW.PrintLast Go.Proofs.YtcklefgkbddlhaaW.PrintMore
attribute [local go_sem] max2_int min2_int max_two min_two max_three min_three max_four min_four   -- for this text's walks alone
set_option linter.unusedVariables false
set_option linter.unusedSimpArgs false


/-! ### impl_reduced: function 159 -/
def impl_reduced.f (k : Nat) (a0 : Int) (a1 : Int) : Option (Int × Int × Bool) := (impl_common.f k a0 a1).bind fun t348 => (if a1 < 0 then (if (wrap64 (-t348)) = 0 then (none) else ((impl_IsFraction.f k (wrap64 (Int.tdiv a0 (wrap64 (-t348)))) (wrap64 (Int.tdiv a1 (wrap64 (-t348))))).bind fun t350 => (some (wrap64 (Int.tdiv a0 (wrap64 (-t348))), wrap64 (Int.tdiv a1 (wrap64 (-t348))), t350)))) else (if t348 = 0 then (none) else ((impl_IsFraction.f k (wrap64 (Int.tdiv a0 t348)) (wrap64 (Int.tdiv a1 t348))).bind fun t352 => (some (wrap64 (Int.tdiv a0 t348), wrap64 (Int.tdiv a1 t348), t352)))))
theorem impl_reduced.mono : ∀ a0 a1 k, LeO (impl_reduced.f k a0 a1) (impl_reduced.f (k + 1) a0 a1) := by
  intro a0 a1 k
  unfold impl_reduced.f
  repeat' first
      | (with_reducible exact impl_IsFraction.mono _ _ _)
      | (with_reducible exact impl_common.mono _ _ _)
      | (with_reducible exact LeO.refl _)
      | (with_reducible exact LeO.none _)
      | (with_reducible refine LeO.ite ?_ ?_)
      | (with_reducible refine LeO.bind ?_ (fun _ => ?_))
def impl_reduced.T4 : Bool × List (List Nat × List Nat) := (true, [([], []), ([], []), ([0, 1], [0, 1]), ([], []), ([], []), ([3, 4], [3, 4]), ([2, 5], [2, 5]), ([], []), ([7, 6, 0, 1, 2, 3, 4, 5, 6, 7], [6, 7])])
def impl_reduced.B4 : List Nat := [0, 0, 3, 0, 0, 24, 63, 0, 255]
theorem impl_reduced.tab4 : rtab .any (opsOf Try.f159 4) = impl_reduced.T4 := by kernel_rfl
theorem impl_reduced.bits4 : waitsOk impl_reduced.T4.2 impl_reduced.B4 = true := by kernel_rfl
set_option maxHeartbeats 8000000 in
set_option maxRecDepth 100000 in
theorem impl_reduced.calls (k : Nat) (a0 : Int) (a1 : Int) (r1 : Int) (r2 : Int) (r3 : Bool) (w : World) (h : impl_reduced.f k a0 a1 = some (r1, r2, r3)) :
    Calls Try.prog 159 #[.int .i64 a0, .int .i64 a1] w fun e w' => e = .returned (.tuple #[.agg #[.int .i64 r1, .int .i64 r2], .bool r3]) ∧ Below w.heap.size w w' := by
  have hu27 := Try.underlying27
  have HB := Aside0.mk (Below.refl w.heap.size w)
  have H : ((impl_common.f k a0 a1).bind fun t348 => (if a1 < 0 then (if (wrap64 (-t348)) = 0 then (none) else ((impl_IsFraction.f k (wrap64 (Int.tdiv a0 (wrap64 (-t348)))) (wrap64 (Int.tdiv a1 (wrap64 (-t348))))).bind fun t350 => (some (wrap64 (Int.tdiv a0 (wrap64 (-t348))), wrap64 (Int.tdiv a1 (wrap64 (-t348))), t350)))) else (if t348 = 0 then (none) else ((impl_IsFraction.f k (wrap64 (Int.tdiv a0 t348)) (wrap64 (Int.tdiv a1 t348))).bind fun t352 => (some (wrap64 (Int.tdiv a0 t348), wrap64 (Int.tdiv a1 t348), t352)))))) = some (r1, r2, r3) := h
  clear h
  replace H := Option.bind_eq_some_iff.mp H
  obtain ⟨t348, A30, H⟩ := H
  replace H : (if a1 < 0 then (if (wrap64 (-t348)) = 0 then (none) else ((impl_IsFraction.f k (wrap64 (Int.tdiv a0 (wrap64 (-t348)))) (wrap64 (Int.tdiv a1 (wrap64 (-t348))))).bind fun t350 => (some (wrap64 (Int.tdiv a0 (wrap64 (-t348))), wrap64 (Int.tdiv a1 (wrap64 (-t348))), t350)))) else (if t348 = 0 then (none) else ((impl_IsFraction.f k (wrap64 (Int.tdiv a0 t348)) (wrap64 (Int.tdiv a1 t348))).bind fun t352 => (some (wrap64 (Int.tdiv a0 t348), wrap64 (Int.tdiv a1 t348), t352))))) = some (r1, r2, r3) := H
  have A3 := Aside0.mk A30
  clear A30
  by_cases c4 : a1 < 0
  · rw [if_pos c4] at H
    have c4b0 : decide (a1 < 0) = true := decide_eq_true c4
    clear c4
    by_cases c5 : (wrap64 (-t348)) = 0
    · rw [if_pos c5] at H
      exact absurd H (by simp)
    · rw [if_neg c5] at H
      have c5b0 : ((wrap64 (-t348)) == 0) = false := beq_eq_false_iff_ne.mpr c5
      have c5b1 : ((wrap64 (-t348)) != 0) = true := bne_iff_ne.mpr c5
      replace H := Option.bind_eq_some_iff.mp H
      obtain ⟨t350, A60, H⟩ := H
      replace H : (some (wrap64 (Int.tdiv a0 (wrap64 (-t348))), wrap64 (Int.tdiv a1 (wrap64 (-t348))), t350)) = some (r1, r2, r3) := H
      have A6 := Aside0.mk A60
      clear A60
      simp only [Option.some.injEq, Prod.mk.injEq] at H
      obtain ⟨rfl, rfl, rfl⟩ := H
      go_enter Try.func159, Try.ntmps159
      try go_wp2_with (first | ((with_reducible refine gate_dst (N := 4) rfl ?_); refine zX 4 (#[.int .i64 0, .int .i64 0]) 27 ?_; intro gb347 hg w7 hbox hb; have BK347 := Aside0.mk (hbox); have GW347 := Aside0.mk (zG : w.heap.size ≤ gb347); have GE347 := Aside0.mk (zG : w.heap.size ≤ gb347); replace HB := Aside0.mk (below_step zB hb); clear hb hbox hg) | ((with_reducible refine gate_callee (f := 158) rfl ?_); refine goesL_ (some 10) rfl rfl Try.func158 (by kernel_rfl) rfl #[.int .i64 a0, .int .i64 a1] rfl zM ?_; (with_reducible refine (impl_common.calls k a0 a1 t348 _ A3.out).mono ?_); rintro e w8 ⟨rfl, hb⟩; refine ⟨_, rfl, ?_⟩; replace BK347 := Aside0.mk (zW BK347 hb); replace HB := Aside0.mk (below_step zB hb); (try clear hb); (try clear hb2); (try clear hk); (try clear hi)))
      replace BK347 := Aside0.mk (blk_drew BK347.out)
      replace HB := Aside0.mk (below_drew1 HB.out)
      refine start_ (n := 9) (S := fun w' => True) (ds := []) #[false, false, false, false, false, false, false, false, false] (by kernel_rfl) rfl rfl trivial (fun hHeld => ?_); refine with_tabW impl_reduced.tab4 impl_reduced.bits4 (fun HT_ HW_ => ?_)
      generalize w8.drew = w9 at BK347 HB hHeld ⊢
      refine zP 0 (N := some 15) (h := ?_)
      refine zP 1 (N := some 16) (h := ?_)
      refine zP 2 (N := some 17) (h := ?_)
      refine zP 3 (N := some 18) (h := ?_)
      refine zP 4 (N := some 19) (h := ?_)
      refine zP 5 (N := some 20) (h := ?_)
      refine zP 6 (N := some 21) (h := ?_)
      refine one_ (i := 7) (N := some 7) #[true, true, true, true, true, true, true, true, false] rfl rfl (one_of HT_.out (by kernel_rfl)) (by decide) (fun K hK => ?_)
      refine box_step ?hg (N := 7) ?hd (cs := #[.int .i64 0, .int .i64 0]) (t := 27) ?hr ?_; (case hd => rfl); (case hg => rfl); (case hr => first | (go_simp; done) | (go_simp; rfl))
      intro gb349 hg w10 hbox hb
      have BK349 := Aside0.mk (hbox)
      have GW349 := Aside0.mk (zG : w.heap.size ≤ gb349)
      have GE349 := Aside0.mk (zG : w.heap.size ≤ gb349)
      have NB347_349 := Aside0.mk (zU BK347 hg)
      have NB349_347 := Aside0.mk (zV BK347 hg)
      replace BK347 := Aside0.mk (zW BK347 hb)
      replace HB := Aside0.mk (below_step zB hb)
      clear hb hbox hg
      refine hK.out _ _ trivial (fun hHeld => ?_)
      clear hK K
      refine norm_ (a' := ?_) ?_ ?_
      rotate_left
      · show Act.put _ (some 7) _ = _
        simp only [Act.put, List.setIfInBounds_toArray, List.set_cons_zero, List.set_cons_succ, i64_w, i32_w]
        rfl
      refine one_ (i := 8) (N := none) #[true, true, true, true, true, true, true, true, true] rfl rfl (one_of HT_.out (by kernel_rfl)) (by decide) (fun K hK => ?_)
      have hs11 : w10.cell? ⟨gb349, 0, none⟩ = some (.int .i64 0) := (blk_cell BK349.out 0).trans rfl
      have hfs11 := blk_frozen BK349.out 0
      have hns11_0 := NB347_349.out
      have hms11_0 := NB349_347.out
      have hs12 : w10.cell? ⟨gb349, 1, none⟩ = some (.int .i64 0) := (blk_cell BK349.out 1).trans rfl
      have hfs12 := blk_frozen BK349.out 1
      have hns12_0 := NB347_349.out
      have hms12_0 := NB349_347.out
      refine skip_ (w1 := ?_) (by rfl) rfl ?_ ?_
      rotate_left
      · go_simp
        rfl
      refine hK.out _ _ trivial (fun hHeld => ?_)
      clear hK K
      refine done_ (done_of HT_.out (by kernel_rfl)) ?_
      try go_wp2
      have n0_ : Aside0 (((w10.setCell ⟨gb349, 0, none⟩ (.int .i64 (wrap64 (Int.tdiv a0 (wrap64 (-t348)))))).setCell ⟨gb349, 1, none⟩ (.int .i64 (wrap64 (Int.tdiv a1 (wrap64 (-t348)))))).heap[gb347]? = some (.cells #[.int .i64 0, .int .i64 0] 27 (0, 0))) := ⟨by (with_reducible repeat (first | refine blk_drewN ?_ _ | refine blk_drew ?_ | refine blk_alloc ?_ _)); refine blk_far ?_ NB347_349.out _; (with_reducible repeat (first | refine blk_drewN ?_ _ | refine blk_drew ?_ | refine blk_alloc ?_ _)); refine blk_far ?_ NB347_349.out _; (with_reducible repeat (first | refine blk_drewN ?_ _ | refine blk_drew ?_ | refine blk_alloc ?_ _)); exact BK347.out⟩
      have n1_ : Aside0 (((w10.setCell ⟨gb349, 0, none⟩ (.int .i64 (wrap64 (Int.tdiv a0 (wrap64 (-t348)))))).setCell ⟨gb349, 1, none⟩ (.int .i64 (wrap64 (Int.tdiv a1 (wrap64 (-t348)))))).heap[gb349]? = some (.cells #[.int .i64 (wrap64 (Int.tdiv a0 (wrap64 (-t348)))), .int .i64 (wrap64 (Int.tdiv a1 (wrap64 (-t348))))] 27 (0, 0))) := ⟨by (with_reducible repeat (first | refine blk_drewN ?_ _ | refine blk_drew ?_ | refine blk_alloc ?_ _)); refine blk_put (cs := #[.int .i64 (wrap64 (Int.tdiv a0 (wrap64 (-t348)))), .int .i64 0]) ?_ 1 _ rfl; (with_reducible repeat (first | refine blk_drewN ?_ _ | refine blk_drew ?_ | refine blk_alloc ?_ _)); refine blk_put (cs := #[.int .i64 0, .int .i64 0]) ?_ 0 _ rfl; (with_reducible repeat (first | refine blk_drewN ?_ _ | refine blk_drew ?_ | refine blk_alloc ?_ _)); exact BK349.out⟩
      have n2_ : Aside0 (Below w.heap.size w ((w10.setCell ⟨gb349, 0, none⟩ (.int .i64 (wrap64 (Int.tdiv a0 (wrap64 (-t348)))))).setCell ⟨gb349, 1, none⟩ (.int .i64 (wrap64 (Int.tdiv a1 (wrap64 (-t348))))))) := ⟨zB⟩
      (try clear BK347)
      (try clear BK349)
      (try clear HB)
      generalize ((w10.setCell ⟨gb349, 0, none⟩ (.int .i64 (wrap64 (Int.tdiv a0 (wrap64 (-t348)))))).setCell ⟨gb349, 1, none⟩ (.int .i64 (wrap64 (Int.tdiv a1 (wrap64 (-t348)))))) = w13 at n0_ n1_ n2_ ⊢
      have BK347 := n0_
      have BK349 := n1_
      have HB := n2_
      clear n0_ n1_ n2_
      replace BK347 := Aside0.mk (blk_drew BK347.out)
      replace BK349 := Aside0.mk (blk_drew BK349.out)
      replace HB := Aside0.mk (below_drew1 HB.out)
      refine start_ (n := 5) (S := fun w' => w'.cell? ⟨gb349, 0, none⟩ = some (.int .i64 (wrap64 (Int.tdiv a0 (wrap64 (-t348))))) ∧ w'.cell? ⟨gb349, 1, none⟩ = some (.int .i64 (wrap64 (Int.tdiv a1 (wrap64 (-t348)))))) (ds := []) #[false, false, false, false, false] (by kernel_rfl) rfl rfl ⟨(blk_cell BK349.out 0).trans rfl, (blk_cell BK349.out 1).trans rfl⟩ (fun hHeld => ?_)
      generalize w13.drew = w14 at BK347 BK349 HB hHeld ⊢
      refine zT 0 hHeld (N := some 22) (h := ?_)
      refine zT 1 hHeld (N := some 23) (h := ?_)
      refine one_ (i := 2) (N := some 24) #[true, true, true, false, false] rfl rfl (by kernel_rfl) (by decide) (fun K hK => ?_)
      refine goes_ Try.func154 (by kernel_rfl) rfl #[.agg #[.int .i64 (wrap64 (Int.tdiv a0 (wrap64 (-t348)))), .int .i64 (wrap64 (Int.tdiv a1 (wrap64 (-t348))))]] (by rfl) rfl rfl zM ?_
      with_reducible refine (impl_IsFraction.calls k (wrap64 (Int.tdiv a0 (wrap64 (-t348)))) (wrap64 (Int.tdiv a1 (wrap64 (-t348)))) t350 _ A6.out).mono ?_
      rintro e w15 ⟨rfl, hb⟩
      refine ⟨_, rfl, ?_⟩
      replace BK347 := Aside0.mk (zW BK347 hb)
      replace BK349 := Aside0.mk (zW BK349 hb)
      replace HB := Aside0.mk (below_step zB hb)
      (try clear hb)
      (try clear hb2)
      (try clear hk)
      (try clear hi)
      refine hK.out _ _ ⟨(blk_cell BK349.out 0).trans rfl, (blk_cell BK349.out 1).trans rfl⟩ (fun hHeld => ?_)
      clear hK K
      refine norm_ (a' := ?_) ?_ ?_
      rotate_left
      · show Act.put _ (some 24) _ = _
        simp only [Act.put, List.setIfInBounds_toArray, List.set_cons_zero, List.set_cons_succ, i64_w, i32_w]
        rfl
      refine one_ (i := 3) (N := none) #[true, true, true, true, false] rfl rfl (by kernel_rfl) (by decide) (fun K hK => ?_)
      have hs16 : w15.cell? ⟨gb347, 0, none⟩ = some (.int .i64 0) := (blk_cell BK347.out 0).trans rfl
      have hfs16 := blk_frozen BK347.out 0
      have hns16_1 := NB349_347.out
      have hms16_1 := NB347_349.out
      have hs17 : w15.cell? ⟨gb347, 1, none⟩ = some (.int .i64 0) := (blk_cell BK347.out 1).trans rfl
      have hfs17 := blk_frozen BK347.out 1
      have hns17_1 := NB349_347.out
      have hms17_1 := NB347_349.out
      refine skip_ (w1 := ?_) (by rfl) rfl ?_ ?_
      rotate_left
      · go_simp
        rfl
      refine hK.out _ _ ⟨((cell_far (p := ⟨gb347, _, none⟩) NB349_347.out _).trans (((cell_far (p := ⟨gb347, _, none⟩) NB349_347.out _).trans (hHeld.1)))), ((cell_far (p := ⟨gb347, _, none⟩) NB349_347.out _).trans (((cell_far (p := ⟨gb347, _, none⟩) NB349_347.out _).trans (hHeld.2))))⟩ (fun hHeld => ?_)
      clear hK K
      refine zP 4 (N := some 5) (h := ?_)
      refine done_ (by kernel_rfl) ?_
      try go_wp2
      refine bodyPost_ret (results_ct rfl _ _ gb347 27 #[.int .i64 (wrap64 (Int.tdiv a0 (wrap64 (-t348)))), .int .i64 (wrap64 (Int.tdiv a1 (wrap64 (-t348))))] (0, 0) _ rfl (by (with_reducible repeat (first | refine blk_drewN ?_ _ | refine blk_drew ?_ | refine blk_alloc ?_ _)); refine blk_put (cs := #[.int .i64 (wrap64 (Int.tdiv a0 (wrap64 (-t348)))), .int .i64 0]) ?_ 1 _ rfl; (with_reducible repeat (first | refine blk_drewN ?_ _ | refine blk_drew ?_ | refine blk_alloc ?_ _)); refine blk_put (cs := #[.int .i64 0, .int .i64 0]) ?_ 0 _ rfl; exact zK) Try.underlying27 rfl (by kernel_rfl)) rfl ?_
      exact ⟨by first | rfl | (simp [errW_none, errW_some] <;> rfl) | (simp [*, errW_none, errW_some] <;> rfl), zB⟩
  · rw [if_neg c4] at H
    have c4b0 : decide (a1 < 0) = false := decide_eq_false c4
    clear c4
    by_cases c18 : t348 = 0
    · rw [if_pos c18] at H
      exact absurd H (by simp)
    · rw [if_neg c18] at H
      have c18b0 : (t348 == 0) = false := beq_eq_false_iff_ne.mpr c18
      have c18b1 : (t348 != 0) = true := bne_iff_ne.mpr c18
      replace H := Option.bind_eq_some_iff.mp H
      obtain ⟨t352, A190, H⟩ := H
      replace H : (some (wrap64 (Int.tdiv a0 t348), wrap64 (Int.tdiv a1 t348), t352)) = some (r1, r2, r3) := H
      have A19 := Aside0.mk A190
      clear A190
      simp only [Option.some.injEq, Prod.mk.injEq] at H
      obtain ⟨rfl, rfl, rfl⟩ := H
      go_enter Try.func159, Try.ntmps159
      try go_wp2_with (first | ((with_reducible refine gate_dst (N := 4) rfl ?_); refine zX 4 (#[.int .i64 0, .int .i64 0]) 27 ?_; intro gb347 hg w20 hbox hb; have BK347 := Aside0.mk (hbox); have GW347 := Aside0.mk (zG : w.heap.size ≤ gb347); have GE347 := Aside0.mk (zG : w.heap.size ≤ gb347); replace HB := Aside0.mk (below_step zB hb); clear hb hbox hg) | ((with_reducible refine gate_callee (f := 158) rfl ?_); refine goesL_ (some 10) rfl rfl Try.func158 (by kernel_rfl) rfl #[.int .i64 a0, .int .i64 a1] rfl zM ?_; (with_reducible refine (impl_common.calls k a0 a1 t348 _ A3.out).mono ?_); rintro e w21 ⟨rfl, hb⟩; refine ⟨_, rfl, ?_⟩; replace BK347 := Aside0.mk (zW BK347 hb); replace HB := Aside0.mk (below_step zB hb); (try clear hb); (try clear hb2); (try clear hk); (try clear hi)))
      replace BK347 := Aside0.mk (blk_drew BK347.out)
      replace HB := Aside0.mk (below_drew1 HB.out)
      refine start_ (n := 9) (S := fun w' => True) (ds := []) #[false, false, false, false, false, false, false, false, false] (by kernel_rfl) rfl rfl trivial (fun hHeld => ?_); refine with_tabW impl_reduced.tab4 impl_reduced.bits4 (fun HT_ HW_ => ?_)
      generalize w21.drew = w22 at BK347 HB hHeld ⊢
      refine zP 0 (N := some 15) (h := ?_)
      refine zP 1 (N := some 16) (h := ?_)
      refine zP 2 (N := some 17) (h := ?_)
      refine zP 3 (N := some 18) (h := ?_)
      refine zP 4 (N := some 19) (h := ?_)
      refine zP 5 (N := some 20) (h := ?_)
      refine zP 6 (N := some 21) (h := ?_)
      refine one_ (i := 7) (N := some 7) #[true, true, true, true, true, true, true, true, false] rfl rfl (one_of HT_.out (by kernel_rfl)) (by decide) (fun K hK => ?_)
      refine box_step ?hg (N := 7) ?hd (cs := #[.int .i64 0, .int .i64 0]) (t := 27) ?hr ?_; (case hd => rfl); (case hg => rfl); (case hr => first | (go_simp; done) | (go_simp; rfl))
      intro gb351 hg w23 hbox hb
      have BK351 := Aside0.mk (hbox)
      have GW351 := Aside0.mk (zG : w.heap.size ≤ gb351)
      have GE351 := Aside0.mk (zG : w.heap.size ≤ gb351)
      have NB347_351 := Aside0.mk (zU BK347 hg)
      have NB351_347 := Aside0.mk (zV BK347 hg)
      replace BK347 := Aside0.mk (zW BK347 hb)
      replace HB := Aside0.mk (below_step zB hb)
      clear hb hbox hg
      refine hK.out _ _ trivial (fun hHeld => ?_)
      clear hK K
      refine norm_ (a' := ?_) ?_ ?_
      rotate_left
      · show Act.put _ (some 7) _ = _
        simp only [Act.put, List.setIfInBounds_toArray, List.set_cons_zero, List.set_cons_succ, i64_w, i32_w]
        rfl
      refine one_ (i := 8) (N := none) #[true, true, true, true, true, true, true, true, true] rfl rfl (one_of HT_.out (by kernel_rfl)) (by decide) (fun K hK => ?_)
      have hs24 : w23.cell? ⟨gb351, 0, none⟩ = some (.int .i64 0) := (blk_cell BK351.out 0).trans rfl
      have hfs24 := blk_frozen BK351.out 0
      have hns24_0 := NB347_351.out
      have hms24_0 := NB351_347.out
      have hs25 : w23.cell? ⟨gb351, 1, none⟩ = some (.int .i64 0) := (blk_cell BK351.out 1).trans rfl
      have hfs25 := blk_frozen BK351.out 1
      have hns25_0 := NB347_351.out
      have hms25_0 := NB351_347.out
      refine skip_ (w1 := ?_) (by rfl) rfl ?_ ?_
      rotate_left
      · go_simp
        rfl
      refine hK.out _ _ trivial (fun hHeld => ?_)
      clear hK K
      refine done_ (done_of HT_.out (by kernel_rfl)) ?_
      try go_wp2
      have n0_ : Aside0 (((w23.setCell ⟨gb351, 0, none⟩ (.int .i64 (wrap64 (Int.tdiv a0 t348)))).setCell ⟨gb351, 1, none⟩ (.int .i64 (wrap64 (Int.tdiv a1 t348)))).heap[gb347]? = some (.cells #[.int .i64 0, .int .i64 0] 27 (0, 0))) := ⟨by (with_reducible repeat (first | refine blk_drewN ?_ _ | refine blk_drew ?_ | refine blk_alloc ?_ _)); refine blk_far ?_ NB347_351.out _; (with_reducible repeat (first | refine blk_drewN ?_ _ | refine blk_drew ?_ | refine blk_alloc ?_ _)); refine blk_far ?_ NB347_351.out _; (with_reducible repeat (first | refine blk_drewN ?_ _ | refine blk_drew ?_ | refine blk_alloc ?_ _)); exact BK347.out⟩
      have n1_ : Aside0 (((w23.setCell ⟨gb351, 0, none⟩ (.int .i64 (wrap64 (Int.tdiv a0 t348)))).setCell ⟨gb351, 1, none⟩ (.int .i64 (wrap64 (Int.tdiv a1 t348)))).heap[gb351]? = some (.cells #[.int .i64 (wrap64 (Int.tdiv a0 t348)), .int .i64 (wrap64 (Int.tdiv a1 t348))] 27 (0, 0))) := ⟨by (with_reducible repeat (first | refine blk_drewN ?_ _ | refine blk_drew ?_ | refine blk_alloc ?_ _)); refine blk_put (cs := #[.int .i64 (wrap64 (Int.tdiv a0 t348)), .int .i64 0]) ?_ 1 _ rfl; (with_reducible repeat (first | refine blk_drewN ?_ _ | refine blk_drew ?_ | refine blk_alloc ?_ _)); refine blk_put (cs := #[.int .i64 0, .int .i64 0]) ?_ 0 _ rfl; (with_reducible repeat (first | refine blk_drewN ?_ _ | refine blk_drew ?_ | refine blk_alloc ?_ _)); exact BK351.out⟩
      have n2_ : Aside0 (Below w.heap.size w ((w23.setCell ⟨gb351, 0, none⟩ (.int .i64 (wrap64 (Int.tdiv a0 t348)))).setCell ⟨gb351, 1, none⟩ (.int .i64 (wrap64 (Int.tdiv a1 t348))))) := ⟨zB⟩
      (try clear BK347)
      (try clear BK351)
      (try clear HB)
      generalize ((w23.setCell ⟨gb351, 0, none⟩ (.int .i64 (wrap64 (Int.tdiv a0 t348)))).setCell ⟨gb351, 1, none⟩ (.int .i64 (wrap64 (Int.tdiv a1 t348)))) = w26 at n0_ n1_ n2_ ⊢
      have BK347 := n0_
      have BK351 := n1_
      have HB := n2_
      clear n0_ n1_ n2_
      replace BK347 := Aside0.mk (blk_drew BK347.out)
      replace BK351 := Aside0.mk (blk_drew BK351.out)
      replace HB := Aside0.mk (below_drew1 HB.out)
      refine start_ (n := 5) (S := fun w' => w'.cell? ⟨gb351, 0, none⟩ = some (.int .i64 (wrap64 (Int.tdiv a0 t348))) ∧ w'.cell? ⟨gb351, 1, none⟩ = some (.int .i64 (wrap64 (Int.tdiv a1 t348)))) (ds := []) #[false, false, false, false, false] (by kernel_rfl) rfl rfl ⟨(blk_cell BK351.out 0).trans rfl, (blk_cell BK351.out 1).trans rfl⟩ (fun hHeld => ?_)
      generalize w26.drew = w27 at BK347 BK351 HB hHeld ⊢
      refine zT 0 hHeld (N := some 22) (h := ?_)
      refine zT 1 hHeld (N := some 23) (h := ?_)
      refine one_ (i := 2) (N := some 24) #[true, true, true, false, false] rfl rfl (by kernel_rfl) (by decide) (fun K hK => ?_)
      refine goes_ Try.func154 (by kernel_rfl) rfl #[.agg #[.int .i64 (wrap64 (Int.tdiv a0 t348)), .int .i64 (wrap64 (Int.tdiv a1 t348))]] (by rfl) rfl rfl zM ?_
      with_reducible refine (impl_IsFraction.calls k (wrap64 (Int.tdiv a0 t348)) (wrap64 (Int.tdiv a1 t348)) t352 _ A19.out).mono ?_
      rintro e w28 ⟨rfl, hb⟩
      refine ⟨_, rfl, ?_⟩
      replace BK347 := Aside0.mk (zW BK347 hb)
      replace BK351 := Aside0.mk (zW BK351 hb)
      replace HB := Aside0.mk (below_step zB hb)
      (try clear hb)
      (try clear hb2)
      (try clear hk)
      (try clear hi)
      refine hK.out _ _ ⟨(blk_cell BK351.out 0).trans rfl, (blk_cell BK351.out 1).trans rfl⟩ (fun hHeld => ?_)
      clear hK K
      refine norm_ (a' := ?_) ?_ ?_
      rotate_left
      · show Act.put _ (some 24) _ = _
        simp only [Act.put, List.setIfInBounds_toArray, List.set_cons_zero, List.set_cons_succ, i64_w, i32_w]
        rfl
      refine one_ (i := 3) (N := none) #[true, true, true, true, false] rfl rfl (by kernel_rfl) (by decide) (fun K hK => ?_)
      have hs29 : w28.cell? ⟨gb347, 0, none⟩ = some (.int .i64 0) := (blk_cell BK347.out 0).trans rfl
      have hfs29 := blk_frozen BK347.out 0
      have hns29_1 := NB351_347.out
      have hms29_1 := NB347_351.out
      have hs30 : w28.cell? ⟨gb347, 1, none⟩ = some (.int .i64 0) := (blk_cell BK347.out 1).trans rfl
      have hfs30 := blk_frozen BK347.out 1
      have hns30_1 := NB351_347.out
      have hms30_1 := NB347_351.out
      refine skip_ (w1 := ?_) (by rfl) rfl ?_ ?_
      rotate_left
      · go_simp
        rfl
      refine hK.out _ _ ⟨((cell_far (p := ⟨gb347, _, none⟩) NB351_347.out _).trans (((cell_far (p := ⟨gb347, _, none⟩) NB351_347.out _).trans (hHeld.1)))), ((cell_far (p := ⟨gb347, _, none⟩) NB351_347.out _).trans (((cell_far (p := ⟨gb347, _, none⟩) NB351_347.out _).trans (hHeld.2))))⟩ (fun hHeld => ?_)
      clear hK K
      refine zP 4 (N := some 5) (h := ?_)
      refine done_ (by kernel_rfl) ?_
      try go_wp2
      refine bodyPost_ret (results_ct rfl _ _ gb347 27 #[.int .i64 (wrap64 (Int.tdiv a0 t348)), .int .i64 (wrap64 (Int.tdiv a1 t348))] (0, 0) _ rfl (by (with_reducible repeat (first | refine blk_drewN ?_ _ | refine blk_drew ?_ | refine blk_alloc ?_ _)); refine blk_put (cs := #[.int .i64 (wrap64 (Int.tdiv a0 t348)), .int .i64 0]) ?_ 1 _ rfl; (with_reducible repeat (first | refine blk_drewN ?_ _ | refine blk_drew ?_ | refine blk_alloc ?_ _)); refine blk_put (cs := #[.int .i64 0, .int .i64 0]) ?_ 0 _ rfl; exact zK) Try.underlying27 rfl (by kernel_rfl)) rfl ?_
      exact ⟨by first | rfl | (simp [errW_none, errW_some] <;> rfl) | (simp [*, errW_none, errW_some] <;> rfl), zB⟩

/-! ### impl_Fraction_plus: function 115 -/
def impl_Fraction_plus.f (k : Nat) (a0_0 : Int) (a0_1 : Int) (a1_0 : Int) (a1_1 : Int) : Option (Int × Int × Bool) := (impl_reduced.f k (wrap64 ((wrap64 (a0_0 * a1_1)) + (wrap64 (a1_0 * a0_1)))) (wrap64 (a0_1 * a1_1))).bind fun bt356 => (some (bt356.1, bt356.2.1, bt356.2.2))
theorem impl_Fraction_plus.mono : ∀ a0 a1 a2 a3 k, LeO (impl_Fraction_plus.f k a0 a1 a2 a3) (impl_Fraction_plus.f (k + 1) a0 a1 a2 a3) := by
  intro a0 a1 a2 a3 k
  unfold impl_Fraction_plus.f
  repeat' first
      | (with_reducible exact impl_reduced.mono _ _ _)
      | (with_reducible exact LeO.refl _)
      | (with_reducible exact LeO.none _)
      | (with_reducible refine LeO.ite ?_ ?_)
      | (with_reducible refine LeO.bind ?_ (fun _ => ?_))
set_option maxHeartbeats 8000000 in
set_option maxRecDepth 100000 in
theorem impl_Fraction_plus.calls (k : Nat) (a0_0 : Int) (a0_1 : Int) (a1_0 : Int) (a1_1 : Int) (r1 : Int) (r2 : Int) (r3 : Bool) (w : World) (h : impl_Fraction_plus.f k a0_0 a0_1 a1_0 a1_1 = some (r1, r2, r3)) :
    Calls Try.prog 115 #[.agg #[.int .i64 a0_0, .int .i64 a0_1], .agg #[.int .i64 a1_0, .int .i64 a1_1]] w fun e w' => e = .returned (.tuple #[.agg #[.int .i64 r1, .int .i64 r2], .bool r3]) ∧ Below w.heap.size w w' := by
  have hu27 := Try.underlying27
  have HB := Aside0.mk (Below.refl w.heap.size w)
  have H : ((impl_reduced.f k (wrap64 ((wrap64 (a0_0 * a1_1)) + (wrap64 (a1_0 * a0_1)))) (wrap64 (a0_1 * a1_1))).bind fun bt356 => (some (bt356.1, bt356.2.1, bt356.2.2))) = some (r1, r2, r3) := h
  clear h
  replace H := Option.bind_eq_some_iff.mp H
  obtain ⟨⟨t356, t357, t358⟩, A30, H⟩ := H
  replace H : (some (t356, t357, t358)) = some (r1, r2, r3) := H
  have A3 := Aside0.mk A30
  clear A30
  simp only [Option.some.injEq, Prod.mk.injEq] at H
  obtain ⟨rfl, rfl, rfl⟩ := H
  go_enter Try.func115, Try.ntmps115
  go_wp2_with (first | ((with_reducible refine gate_dst (N := 2) rfl ?_); refine zX 2 (#[.int .i64 a0_0, .int .i64 a0_1]) 27 ?_; intro gb353 hg w4 hbox hb; have BK353 := Aside0.mk (hbox); have GW353 := Aside0.mk (zG : w.heap.size ≤ gb353); have GE353 := Aside0.mk (zG : w.heap.size ≤ gb353); replace HB := Aside0.mk (below_step zB hb); clear hb hbox hg) | ((with_reducible refine gate_dst (N := 3) rfl ?_); refine zX 3 (#[.int .i64 a1_0, .int .i64 a1_1]) 27 ?_; intro gb354 hg w5 hbox hb; have BK354 := Aside0.mk (hbox); have GW354 := Aside0.mk (zG : w.heap.size ≤ gb354); have GE354 := Aside0.mk (zG : w.heap.size ≤ gb354); have NB353_354 := Aside0.mk (zU BK353 hg); have NB354_353 := Aside0.mk (zV BK353 hg); replace BK353 := Aside0.mk (zW BK353 hb); replace HB := Aside0.mk (below_step zB hb); clear hb hbox hg) | ((with_reducible refine gate_dst (N := 4) rfl ?_); refine zX 4 (#[.int .i64 0, .int .i64 0]) 27 ?_; intro gb355 hg w6 hbox hb; have BK355 := Aside0.mk (hbox); have GW355 := Aside0.mk (zG : w.heap.size ≤ gb355); have GE355 := Aside0.mk (zG : w.heap.size ≤ gb355); have NB353_355 := Aside0.mk (zU BK353 hg); have NB355_353 := Aside0.mk (zV BK353 hg); have NB354_355 := Aside0.mk (zU BK354 hg); have NB355_354 := Aside0.mk (zV BK354 hg); replace BK353 := Aside0.mk (zW BK353 hb); replace BK354 := Aside0.mk (zW BK354 hb); replace HB := Aside0.mk (below_step zB hb); clear hb hbox hg; have hnb7 := NB353_354.out; have hnc7 := NB354_353.out; have hnb8 := NB353_355.out; have hnc8 := NB355_353.out; obtain ⟨hcz9_0, hcz9_1, hfz9_0, hfz9_1⟩ := zC2 BK353; have hnb10 := NB354_355.out; have hnc10 := NB355_354.out; obtain ⟨hcz11_0, hcz11_1, hfz11_0, hfz11_1⟩ := zC2 BK354) | ((with_reducible refine gate_callee (f := 159) rfl ?_); refine goesL_ (some 22) rfl rfl Try.func159 (by kernel_rfl) rfl #[.int .i64 (wrap64 ((wrap64 (a0_0 * a1_1)) + (wrap64 (a1_0 * a0_1)))), .int .i64 (wrap64 (a0_1 * a1_1))] rfl zM ?_; (with_reducible refine (impl_reduced.calls k (wrap64 ((wrap64 (a0_0 * a1_1)) + (wrap64 (a1_0 * a0_1)))) (wrap64 (a0_1 * a1_1)) t356 t357 t358 _ A3.out).mono ?_); rintro e w12 ⟨rfl, hb⟩; refine ⟨_, rfl, ?_⟩; replace BK353 := Aside0.mk (zW BK353 hb); replace BK354 := Aside0.mk (zW BK354 hb); replace BK355 := Aside0.mk (zW BK355 hb); replace HB := Aside0.mk (below_step zB hb); (try clear hb); (try clear hb2); (try clear hk); (try clear hi); obtain ⟨hcz13_0, hcz13_1, hfz13_0, hfz13_1⟩ := zC2 BK355))
  refine bodyPost_ret (results_ct rfl _ _ gb355 27 #[.int .i64 t356, .int .i64 t357] (0, 0) _ rfl (by (with_reducible repeat (first | refine blk_drewN ?_ _ | refine blk_drew ?_ | refine blk_alloc ?_ _)); refine blk_put (cs := #[.int .i64 t356, .int .i64 0]) ?_ 1 _ rfl; (with_reducible repeat (first | refine blk_drewN ?_ _ | refine blk_drew ?_ | refine blk_alloc ?_ _)); refine blk_put (cs := #[.int .i64 0, .int .i64 0]) ?_ 0 _ rfl; exact zK) Try.underlying27 rfl (by kernel_rfl)) rfl ?_
  exact ⟨by first | rfl | (simp [errW_none, errW_some] <;> rfl) | (simp [*, errW_none, errW_some] <;> rfl), zB⟩

/-- A state of type 147 at block g of W; what its slices lead to came in by w0. -/
def IsS147 (w0 W : World) (g : Nat) (f0 : Int) (f1 : Int) (f2 : List (S27)) (f3 : Bool) : Prop := ∃ A2 c2, W.heap[g]? = some (.cells #[.int .i64 f0, .int .i64 f1, .slice A2 f2.length c2, .bool f3] 147 (0, 0)) ∧ w0.heap.size ≤ g ∧ Kd.C k27 w0 A2 f2.length f2
theorem IsS147.grown {w0 W : World} {g : Nat} {f0 : Int} {f1 : Int} {f2 : List (S27)} {f3 : Bool} {W1 : World} {row : Option Nat} (h : IsS147 w0 W g f0 f1 f2 f3) (hw : W.grownBy W1 row) (hne : some g ≠ row) : IsS147 w0 W1 g f0 f1 f2 f3 := by
  obtain ⟨A2, c2, hb, hg, hr2⟩ := h
  exact ⟨A2, c2, blk_grown hb hw hne, hg, hr2⟩
theorem IsS147.own_neN {w0 W : World} {g : Nat} {f0 : Int} {f1 : Int} {f2 : List (S27)} {f3 : Bool} {α : Type} {d : Kd α} {e : Nat} {base : Nat} {ok : Nat → Prop} {v : Value} {xs : List α} (h : IsS147 w0 W g f0 f1 f2 f3) (ho : Kd.N d e W base ok v xs) (ht : e ≠ 147) : some g ≠ v.ownBlock := by
  obtain ⟨A2, c2, hb, hg, hr2⟩ := h
  exact Kd.N_ne ho hb ht
theorem IsS147.fresh {w0 W : World} {g : Nat} {f0 : Int} {f1 : Int} {f2 : List (S27)} {f3 : Bool} (h : IsS147 w0 W g f0 f1 f2 f3) : ∀ k, W.heap.size ≤ k → k ≠ g := by
  obtain ⟨A2, c2, hb, hg, hr2⟩ := h
  exact Kd.freshB hb
theorem IsS147.kept {w0 W : World} {g : Nat} {f0 : Int} {f1 : Int} {f2 : List (S27)} {f3 : Bool} {W1 : World} {S : Nat → Prop} (h : IsS147 w0 W g f0 f1 f2 f3) (hk : Kept W W1 S) (hne : ¬ S g) : IsS147 w0 W1 g f0 f1 f2 f3 := by
  obtain ⟨A2, c2, hb, hg, hr2⟩ := h
  exact ⟨A2, c2, blk_kept hb hk hne, hg, hr2⟩
theorem IsS147.below {w0 W : World} {g : Nat} {f0 : Int} {f1 : Int} {f2 : List (S27)} {f3 : Bool} {W1 : World} (h : IsS147 w0 W g f0 f1 f2 f3) (hw : Below W.heap.size W W1) : IsS147 w0 W1 g f0 f1 f2 f3 := h.grown (grown_of_below hw none) (by simp)
theorem IsS147.alloc {w0 W : World} {g : Nat} {f0 : Int} {f1 : Int} {f2 : List (S27)} {f3 : Bool} (h : IsS147 w0 W g f0 f1 f2 f3) (o : Obj) : IsS147 w0 (W.alloc o) g f0 f1 f2 f3 := h.below (below_alloc (Below.refl _ _) o)
theorem IsS147.drewN {w0 W : World} {g : Nat} {f0 : Int} {f1 : Int} {f2 : List (S27)} {f3 : Bool} (h : IsS147 w0 W g f0 f1 f2 f3) (m : Nat) : IsS147 w0 (W.drewN m) g f0 f1 f2 f3 := h
theorem IsS147.drew {w0 W : World} {g : Nat} {f0 : Int} {f1 : Int} {f2 : List (S27)} {f3 : Bool} (h : IsS147 w0 W g f0 f1 f2 f3) : IsS147 w0 W.drew g f0 f1 f2 f3 := h
theorem IsS147.at_ {w0 W : World} {g : Nat} {f0 : Int} {f1 : Int} {f2 : List (S27)} {f3 : Bool} {w' : World} {m : Nat} (hq : W.drewN m = w') (h : IsS147 w0 W g f0 f1 f2 f3) : IsS147 w0 w' g f0 f1 f2 f3 := by subst hq; exact IsS147.drewN h m
theorem IsS147.apart {w0 W : World} {g : Nat} {f0 : Int} {f1 : Int} {f2 : List (S27)} {f3 : Bool} {α : Type} {d : Kd α} {e : Nat} {base : Nat} {ok : Nat → Prop} {v : Value} {xs : List α} (h : IsS147 w0 W g f0 f1 f2 f3) (ho : d.R e W base ok v xs) (ht : ∀ q, q ∈ e :: d.E → q ≠ 147) : d.R e W base (fun k => ok k ∧ k ≠ g) v xs := by
  obtain ⟨A2, c2, hb, hg, hr2⟩ := h
  exact Kd.R_types ho hb ht
theorem IsS147.own_ne {w0 W : World} {g : Nat} {f0 : Int} {f1 : Int} {f2 : List (S27)} {f3 : Bool} {α : Type} {d : Kd α} {e : Nat} {base : Nat} {ok : Nat → Prop} {v : Value} {xs : List α} (h : IsS147 w0 W g f0 f1 f2 f3) (ho : d.R e W base ok v xs) (ht : e ≠ 147) : some g ≠ v.ownBlock := by
  obtain ⟨A2, c2, hb, hg, hr2⟩ := h
  exact Kd.R_ne ho hb ht
theorem IsS147.apartQ {w0 W : World} {g : Nat} {f0 : Int} {f1 : Int} {f2 : List (S27)} {f3 : Bool} {α : Type} {d : Kd α} {e : Nat} {base : Nat} {ok : Nat → Prop} {v : Value} {xs : List α} (h : IsS147 w0 W g f0 f1 f2 f3) (ho : d.Q e W base ok v xs) (ht : ∀ q, q ∈ e :: d.E → q ≠ 147) : d.Q e W base (fun k => ok k ∧ k ≠ g) v xs := by
  obtain ⟨A2, c2, hb, hg, hr2⟩ := h
  exact Kd.Q_types ho hb ht
theorem IsS147.own_neQ {w0 W : World} {g : Nat} {f0 : Int} {f1 : Int} {f2 : List (S27)} {f3 : Bool} {α : Type} {d : Kd α} {e : Nat} {base : Nat} {ok : Nat → Prop} {v : Value} {xs : List α} (h : IsS147 w0 W g f0 f1 f2 f3) (ho : d.Q e W base ok v xs) (ht : e ≠ 147) : some g ≠ v.ownBlock := by
  obtain ⟨A2, c2, hb, hg, hr2⟩ := h
  exact Kd.Q_ne ho hb ht
theorem IsS147.apartS {w0 W : World} {g : Nat} {f0 : Int} {f1 : Int} {f2 : List (S27)} {f3 : Bool} {α : Type} {d : Kd α} {e : Nat} {base : Nat} {ok : Nat → Prop} {v : Value} {xs : List α} (h : IsS147 w0 W g f0 f1 f2 f3) (ho : d.S e W base ok v xs) (ht : ∀ q, q ∈ e :: d.E → q ≠ 147) : d.S e W base (fun k => ok k ∧ k ≠ g) v xs := by
  obtain ⟨A2, c2, hb, hg, hr2⟩ := h
  exact Kd.S_types ho hb ht
theorem IsS147.own_neS {w0 W : World} {g : Nat} {f0 : Int} {f1 : Int} {f2 : List (S27)} {f3 : Bool} {α : Type} {d : Kd α} {e : Nat} {base : Nat} {ok : Nat → Prop} {v : Value} {xs : List α} (h : IsS147 w0 W g f0 f1 f2 f3) (ho : d.S e W base ok v xs) (ht : e ≠ 147) : some g ≠ v.ownBlock := by
  obtain ⟨A2, c2, hb, hg, hr2⟩ := h
  exact Kd.S_ne ho hb ht
theorem IsS147.lt {w0 W : World} {g : Nat} {f0 : Int} {f1 : Int} {f2 : List (S27)} {f3 : Bool} (h : IsS147 w0 W g f0 f1 f2 f3) : g < W.heap.size := by
  obtain ⟨A2, c2, hb, hg, hr2⟩ := h
  exact blk_lt hb
theorem IsS147.ge {w0 W : World} {g : Nat} {f0 : Int} {f1 : Int} {f2 : List (S27)} {f3 : Bool} (h : IsS147 w0 W g f0 f1 f2 f3) : w0.heap.size ≤ g := by
  obtain ⟨A2, c2, hb, hg, hr2⟩ := h
  exact hg
theorem IsS147.ne_blk {w0 W : World} {g : Nat} {f0 : Int} {f1 : Int} {f2 : List (S27)} {f3 : Bool} {a : Nat} {cs : Array Value} {t : TypeId} {fr : Nat × Nat} (h : IsS147 w0 W g f0 f1 f2 f3) (hb2 : W.heap[a]? = some (.cells cs t fr)) (ht : t ≠ 147) : g ≠ a := by
  obtain ⟨A2, c2, hb, hg, hr2⟩ := h
  rintro rfl
  rw [hb] at hb2
  injection hb2 with hb2
  injection hb2 with _ ht2
  exact ht ht2.symm
theorem IsS147.far {w0 W : World} {g : Nat} {f0 : Int} {f1 : Int} {f2 : List (S27)} {f3 : Bool} {p : Addr} (h : IsS147 w0 W g f0 f1 f2 f3) (hne : g ≠ p.block) (u : Value) : IsS147 w0 (W.setCell p u) g f0 f1 f2 f3 := by
  obtain ⟨A2, c2, hb, hg, hr2⟩ := h
  exact ⟨A2, c2, blk_far hb hne u, hg, hr2⟩
theorem cellS147_0 {W : World} {g : Nat} {A2 : Option Addr} {c2 : Nat} {f0 : Int} {f1 : Int} {f2 : List (S27)} {f3 : Bool} (h : W.heap[g]? = some (.cells #[.int .i64 f0, .int .i64 f1, .slice A2 f2.length c2, .bool f3] 147 (0, 0))) : W.cell? ⟨g, 0, none⟩ = some (.int .i64 f0) := (blk_cell h 0).trans rfl
theorem IsS147.set_0 {w0 W : World} {g : Nat} {f0 : Int} {f1 : Int} {f2 : List (S27)} {f3 : Bool} (h : IsS147 w0 W g f0 f1 f2 f3) (x : Int) : IsS147 w0 (W.setCell ⟨g, 0, none⟩ (.int .i64 x)) g x f1 f2 f3 := by
  obtain ⟨A2, c2, hb, hg, hr2⟩ := h
  exact ⟨A2, c2, by simpa using blk_set hb 0 (.int .i64 x), hg, hr2⟩
theorem cellS147_1 {W : World} {g : Nat} {A2 : Option Addr} {c2 : Nat} {f0 : Int} {f1 : Int} {f2 : List (S27)} {f3 : Bool} (h : W.heap[g]? = some (.cells #[.int .i64 f0, .int .i64 f1, .slice A2 f2.length c2, .bool f3] 147 (0, 0))) : W.cell? ⟨g, 1, none⟩ = some (.int .i64 f1) := (blk_cell h 1).trans rfl
theorem IsS147.set_1 {w0 W : World} {g : Nat} {f0 : Int} {f1 : Int} {f2 : List (S27)} {f3 : Bool} (h : IsS147 w0 W g f0 f1 f2 f3) (x : Int) : IsS147 w0 (W.setCell ⟨g, 1, none⟩ (.int .i64 x)) g f0 x f2 f3 := by
  obtain ⟨A2, c2, hb, hg, hr2⟩ := h
  exact ⟨A2, c2, by simpa using blk_set hb 1 (.int .i64 x), hg, hr2⟩
theorem cellS147_2 {W : World} {g : Nat} {A2 : Option Addr} {c2 : Nat} {f0 : Int} {f1 : Int} {f2 : List (S27)} {f3 : Bool} (h : W.heap[g]? = some (.cells #[.int .i64 f0, .int .i64 f1, .slice A2 f2.length c2, .bool f3] 147 (0, 0))) : W.cell? ⟨g, 2, none⟩ = some (.slice A2 f2.length c2) := (blk_cell h 2).trans rfl
theorem cellS147_3 {W : World} {g : Nat} {A2 : Option Addr} {c2 : Nat} {f0 : Int} {f1 : Int} {f2 : List (S27)} {f3 : Bool} (h : W.heap[g]? = some (.cells #[.int .i64 f0, .int .i64 f1, .slice A2 f2.length c2, .bool f3] 147 (0, 0))) : W.cell? ⟨g, 3, none⟩ = some (.bool f3) := (blk_cell h 3).trans rfl
theorem IsS147.set_3 {w0 W : World} {g : Nat} {f0 : Int} {f1 : Int} {f2 : List (S27)} {f3 : Bool} (h : IsS147 w0 W g f0 f1 f2 f3) (x : Bool) : IsS147 w0 (W.setCell ⟨g, 3, none⟩ (.bool x)) g f0 f1 f2 x := by
  obtain ⟨A2, c2, hb, hg, hr2⟩ := h
  exact ⟨A2, c2, by simpa using blk_set hb 3 (.bool x), hg, hr2⟩
theorem IsS147.new (w0 W : World) (A2 : Option Addr) (c2 : Nat) (f0 : Int) (f1 : Int) (f2 : List (S27)) (f3 : Bool) (hB : Below w0.heap.size w0 W) (hr2 : Kd.C k27 w0 A2 f2.length f2) : IsS147 w0 (W.alloc (.cells #[.int .i64 f0, .int .i64 f1, .slice A2 f2.length c2, .bool f3] 147)) W.heap.size f0 f1 f2 f3 := ⟨A2, c2, by simpa using heap_alloc_new W _, hB.size, hr2⟩


/-! ### impl_Fraction_times: function 164 -/
def impl_Fraction_times.f (k : Nat) (a0_0 : Int) (a0_1 : Int) (a1_0 : Int) (a1_1 : Int) : Option (Int × Int × Bool) := (impl_reduced.f k (wrap64 (a0_0 * a1_0)) (wrap64 (a0_1 * a1_1))).bind fun bt377 => (some (bt377.1, bt377.2.1, bt377.2.2))
theorem impl_Fraction_times.mono : ∀ a0 a1 a2 a3 k, LeO (impl_Fraction_times.f k a0 a1 a2 a3) (impl_Fraction_times.f (k + 1) a0 a1 a2 a3) := by
  intro a0 a1 a2 a3 k
  unfold impl_Fraction_times.f
  repeat' first
      | (with_reducible exact impl_reduced.mono _ _ _)
      | (with_reducible exact LeO.refl _)
      | (with_reducible exact LeO.none _)
      | (with_reducible refine LeO.ite ?_ ?_)
      | (with_reducible refine LeO.bind ?_ (fun _ => ?_))
set_option maxHeartbeats 8000000 in
set_option maxRecDepth 100000 in
theorem impl_Fraction_times.calls (k : Nat) (a0_0 : Int) (a0_1 : Int) (a1_0 : Int) (a1_1 : Int) (r1 : Int) (r2 : Int) (r3 : Bool) (w : World) (h : impl_Fraction_times.f k a0_0 a0_1 a1_0 a1_1 = some (r1, r2, r3)) :
    Calls Try.prog 164 #[.agg #[.int .i64 a0_0, .int .i64 a0_1], .agg #[.int .i64 a1_0, .int .i64 a1_1]] w fun e w' => e = .returned (.tuple #[.agg #[.int .i64 r1, .int .i64 r2], .bool r3]) ∧ Below w.heap.size w w' := by
  have hu27 := Try.underlying27
  have HB := Aside0.mk (Below.refl w.heap.size w)
  have H : ((impl_reduced.f k (wrap64 (a0_0 * a1_0)) (wrap64 (a0_1 * a1_1))).bind fun bt377 => (some (bt377.1, bt377.2.1, bt377.2.2))) = some (r1, r2, r3) := h
  clear h
  replace H := Option.bind_eq_some_iff.mp H
  obtain ⟨⟨t377, t378, t379⟩, A30, H⟩ := H
  replace H : (some (t377, t378, t379)) = some (r1, r2, r3) := H
  have A3 := Aside0.mk A30
  clear A30
  simp only [Option.some.injEq, Prod.mk.injEq] at H
  obtain ⟨rfl, rfl, rfl⟩ := H
  go_enter Try.func164, Try.ntmps164
  go_wp2_with (first | ((with_reducible refine gate_dst (N := 2) rfl ?_); refine zX 2 (#[.int .i64 a0_0, .int .i64 a0_1]) 27 ?_; intro gb374 hg w4 hbox hb; have BK374 := Aside0.mk (hbox); have GW374 := Aside0.mk (zG : w.heap.size ≤ gb374); have GE374 := Aside0.mk (zG : w.heap.size ≤ gb374); replace HB := Aside0.mk (below_step zB hb); clear hb hbox hg) | ((with_reducible refine gate_dst (N := 3) rfl ?_); refine zX 3 (#[.int .i64 a1_0, .int .i64 a1_1]) 27 ?_; intro gb375 hg w5 hbox hb; have BK375 := Aside0.mk (hbox); have GW375 := Aside0.mk (zG : w.heap.size ≤ gb375); have GE375 := Aside0.mk (zG : w.heap.size ≤ gb375); have NB374_375 := Aside0.mk (zU BK374 hg); have NB375_374 := Aside0.mk (zV BK374 hg); replace BK374 := Aside0.mk (zW BK374 hb); replace HB := Aside0.mk (below_step zB hb); clear hb hbox hg) | ((with_reducible refine gate_dst (N := 4) rfl ?_); refine zX 4 (#[.int .i64 0, .int .i64 0]) 27 ?_; intro gb376 hg w6 hbox hb; have BK376 := Aside0.mk (hbox); have GW376 := Aside0.mk (zG : w.heap.size ≤ gb376); have GE376 := Aside0.mk (zG : w.heap.size ≤ gb376); have NB374_376 := Aside0.mk (zU BK374 hg); have NB376_374 := Aside0.mk (zV BK374 hg); have NB375_376 := Aside0.mk (zU BK375 hg); have NB376_375 := Aside0.mk (zV BK375 hg); replace BK374 := Aside0.mk (zW BK374 hb); replace BK375 := Aside0.mk (zW BK375 hb); replace HB := Aside0.mk (below_step zB hb); clear hb hbox hg; have hnb7 := NB374_375.out; have hnc7 := NB375_374.out; have hnb8 := NB374_376.out; have hnc8 := NB376_374.out; obtain ⟨hcz9_0, hcz9_1, hfz9_0, hfz9_1⟩ := zC2 BK374; have hnb10 := NB375_376.out; have hnc10 := NB376_375.out; obtain ⟨hcz11_0, hcz11_1, hfz11_0, hfz11_1⟩ := zC2 BK375) | ((with_reducible refine gate_callee (f := 159) rfl ?_); refine goesL_ (some 16) rfl rfl Try.func159 (by kernel_rfl) rfl #[.int .i64 (wrap64 (a0_0 * a1_0)), .int .i64 (wrap64 (a0_1 * a1_1))] rfl zM ?_; (with_reducible refine (impl_reduced.calls k (wrap64 (a0_0 * a1_0)) (wrap64 (a0_1 * a1_1)) t377 t378 t379 _ A3.out).mono ?_); rintro e w12 ⟨rfl, hb⟩; refine ⟨_, rfl, ?_⟩; replace BK374 := Aside0.mk (zW BK374 hb); replace BK375 := Aside0.mk (zW BK375 hb); replace BK376 := Aside0.mk (zW BK376 hb); replace HB := Aside0.mk (below_step zB hb); (try clear hb); (try clear hb2); (try clear hk); (try clear hi); obtain ⟨hcz13_0, hcz13_1, hfz13_0, hfz13_1⟩ := zC2 BK376))
  refine bodyPost_ret (results_ct rfl _ _ gb376 27 #[.int .i64 t377, .int .i64 t378] (0, 0) _ rfl (by (with_reducible repeat (first | refine blk_drewN ?_ _ | refine blk_drew ?_ | refine blk_alloc ?_ _)); refine blk_put (cs := #[.int .i64 t377, .int .i64 0]) ?_ 1 _ rfl; (with_reducible repeat (first | refine blk_drewN ?_ _ | refine blk_drew ?_ | refine blk_alloc ?_ _)); refine blk_put (cs := #[.int .i64 0, .int .i64 0]) ?_ 0 _ rfl; exact zK) Try.underlying27 rfl (by kernel_rfl)) rfl ?_
  exact ⟨by first | rfl | (simp [errW_none, errW_some] <;> rfl) | (simp [*, errW_none, errW_some] <;> rfl), zB⟩

-- NOT PRINTED: function 138 (impl_table_addTimes)

-- NOT PRINTED: function 90 (impl_table_times)

-- NOT PRINTED: function 176 (impl_table_sum)

-- NOT PRINTED: function 177 (impl_table_scaled)

-- NOT PRINTED: function 165 (impl_table_powers)

-- NOT PRINTED: function 139 (impl_table_exponential)

-- NOT PRINTED: function 91 (impl_stepSignature)

-- NOT PRINTED: function 73 (impl_signature)


end Go.Proofs.Ytcklefgkbddlhaa.P
