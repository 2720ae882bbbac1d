/- What a call of each Go function named below comes to is what the plain Lean function beside it says. Made by a program of this session out of the print of the translation; Lean checks it. -/
import Derived.Test.YtcklefgkbddlhaaPx0
import Derived.Test.YtcklefgkbddlhaaPx12
namespace Go.Proofs.Ytcklefgkbddlhaa.P
open Go.RowKit Go.Proofs.YtcklefgkbddlhaaW.PrintWords Go.Proofs.YtcklefgkbddlhaaW.PrintLast Go.Proofs.YtcklefgkbddlhaaW.PrintMore
attribute [local go_sem] max2_int min2_int max_two min_two max_three min_three max_four min_four   -- for this text's walks alone
set_option linter.unusedVariables false
set_option linter.unusedSimpArgs false


/-! ### laws_heldSeries: function 35 -/
def laws_heldSeries.f (k : Nat) (a0_0 : Int) (a0_1 : Int) (l0_2 : List (S89)) (a1 : Int) : Option (Int) := (laws_heldTermS.f k l0_2 a1).bind fun t414 => (if t414 < 0 then (some (-1)) else (some t414))
theorem laws_heldSeries.mono : ∀ a0 a1 a2 a3 k, LeO (laws_heldSeries.f k a0 a1 a2 a3) (laws_heldSeries.f (k + 1) a0 a1 a2 a3) := by
  intro a0 a1 a2 a3 k
  unfold laws_heldSeries.f
  repeat' first
      | (with_reducible exact laws_heldTermS.mono _ _ _)
      | (with_reducible exact LeO.refl _)
      | (with_reducible exact LeO.none _)
      | (with_reducible refine LeO.ite ?_ ?_)
      | (with_reducible refine LeO.bind ?_ (fun _ => ?_))
set_option maxHeartbeats 8000000 in
set_option maxRecDepth 100000 in
theorem laws_heldSeries.calls (k : Nat) (a0_0 : Int) (a0_1 : Int) (A0_2 : Option Addr) (c0_2 : Nat) (l0_2 : List (S89)) (a1 : Int) (r : Int) (w : World) (hr0_2 : Kd.C k89 w A0_2 l0_2.length l0_2) (hc0_2 : l0_2.length ≤ c0_2) (h : laws_heldSeries.f k a0_0 a0_1 l0_2 a1 = some r) :
    Calls Try.prog 35 #[.agg #[.int .i64 a0_0, .int .i64 a0_1, .slice A0_2 l0_2.length c0_2], .int .i64 a1] w fun e w' => e = .returned (.int .i64 r) ∧ Below w.heap.size w w' := by
  have hu32 := Try.underlying32
  have HR0_2 := Aside0.mk hr0_2
  have HC0_2 := Aside0.mk hc0_2
  clear hr0_2 hc0_2
  have HB := Aside0.mk (Below.refl w.heap.size w)
  have H : ((laws_heldTermS.f k l0_2 a1).bind fun t414 => (if t414 < 0 then (some (-1)) else (some t414))) = some r := h
  clear h
  replace H := Option.bind_eq_some_iff.mp H
  obtain ⟨t414, A30, H⟩ := H
  replace H : (if t414 < 0 then (some (-1)) else (some t414)) = some r := H
  have A3 := Aside0.mk A30
  clear A30
  by_cases c4 : t414 < 0
  · rw [if_pos c4] at H
    have c4b0 : decide (t414 < 0) = true := decide_eq_true c4
    clear c4
    obtain rfl := Option.some.inj H
    go_enter Try.func35, Try.ntmps35
    go_wp2_with (first | ((with_reducible refine gate_dst (N := 2) rfl ?_); refine box_event ?hg (N := 2) ?hd (cs := #[.int .i64 a0_0, .int .i64 a0_1, .slice A0_2 l0_2.length c0_2]) (t := 32) ?hr ?_; (case hd => rfl); (case hg => rfl); (case hr => first | (go_simp; done) | (go_simp; rfl)); intro gb413 hg w5 hbox hb; have n0_ := Aside0.mk (below_step zB hb); have n1_ := Aside0.mk (hbox); have n2_ := Aside0.mk (zG : w.heap.size ≤ gb413); have n3_ := Aside0.mk (zG : w.heap.size ≤ gb413); clear HB; have HB := n0_; have BK413 := n1_; have GW413 := n2_; have GE413 := n3_; clear n0_ n1_ n2_ n3_; clear hb hbox hg; have hcz6_0 : w5.cell? ⟨gb413, 0, none⟩ = some (.int .i64 a0_0) := zE BK413; have hcz6_1 : w5.cell? ⟨gb413, 1, none⟩ = some (.int .i64 a0_1) := zE BK413; have hcz6_2 : w5.cell? ⟨gb413, 2, none⟩ = some (.slice A0_2 l0_2.length c0_2) := zE BK413; have hfz6_0 := blk_frozen BK413.out 0; have hfz6_1 := blk_frozen BK413.out 1; have hfz6_2 := blk_frozen BK413.out 2) | ((with_reducible refine gate_callee (f := 76) rfl ?_); refine goesL_ (some 8) rfl rfl Try.func76 (by kernel_rfl) rfl #[.slice A0_2 l0_2.length c0_2, .int .i64 a1] rfl zM ?_; (with_reducible refine (laws_heldTermS.calls k _ _ l0_2 a1 t414 _ ?side1 ?side2 A3.out).mono ?_); (case side1 => repeat (first | exact (Kd.C_below HR0_2.out HB.out) | (with_reducible refine Kd.C_alloc ?_ _) | (with_reducible refine Kd.C_drewN ?_ _) | (with_reducible refine Kd.C_drew ?_))); (case side2 => exact HC0_2.out); rintro e w7 ⟨rfl, hb⟩; refine ⟨_, rfl, ?_⟩; have n0_ := Aside0.mk (blk_below (g := gb413) (o := .cells #[.int .i64 a0_0, .int .i64 a0_1, .slice A0_2 l0_2.length c0_2] 32 (0, 0)) zK hb); have n1_ := Aside0.mk (below_step zB hb); clear BK413; clear HB; have BK413 := n0_; have HB := n1_; clear n0_ n1_; (try clear hb); (try clear hb2); (try clear hk); (try clear hi)))
    go_ret
    exact ⟨by first | rfl | (simp [errW_none, errW_some] <;> rfl) | (simp [*, errW_none, errW_some] <;> rfl), zB⟩
  · rw [if_neg c4] at H
    have c4b0 : decide (t414 < 0) = false := decide_eq_false c4
    clear c4
    obtain rfl := Option.some.inj H
    go_enter Try.func35, Try.ntmps35
    go_wp2_with (first | ((with_reducible refine gate_dst (N := 2) rfl ?_); refine box_event ?hg (N := 2) ?hd (cs := #[.int .i64 a0_0, .int .i64 a0_1, .slice A0_2 l0_2.length c0_2]) (t := 32) ?hr ?_; (case hd => rfl); (case hg => rfl); (case hr => first | (go_simp; done) | (go_simp; rfl)); intro gb413 hg w8 hbox hb; have n0_ := Aside0.mk (below_step zB hb); have n1_ := Aside0.mk (hbox); have n2_ := Aside0.mk (zG : w.heap.size ≤ gb413); have n3_ := Aside0.mk (zG : w.heap.size ≤ gb413); clear HB; have HB := n0_; have BK413 := n1_; have GW413 := n2_; have GE413 := n3_; clear n0_ n1_ n2_ n3_; clear hb hbox hg; have hcz9_0 : w8.cell? ⟨gb413, 0, none⟩ = some (.int .i64 a0_0) := zE BK413; have hcz9_1 : w8.cell? ⟨gb413, 1, none⟩ = some (.int .i64 a0_1) := zE BK413; have hcz9_2 : w8.cell? ⟨gb413, 2, none⟩ = some (.slice A0_2 l0_2.length c0_2) := zE BK413; have hfz9_0 := blk_frozen BK413.out 0; have hfz9_1 := blk_frozen BK413.out 1; have hfz9_2 := blk_frozen BK413.out 2) | ((with_reducible refine gate_callee (f := 76) rfl ?_); refine goesL_ (some 8) rfl rfl Try.func76 (by kernel_rfl) rfl #[.slice A0_2 l0_2.length c0_2, .int .i64 a1] rfl zM ?_; (with_reducible refine (laws_heldTermS.calls k _ _ l0_2 a1 t414 _ ?side1 ?side2 A3.out).mono ?_); (case side1 => repeat (first | exact (Kd.C_below HR0_2.out HB.out) | (with_reducible refine Kd.C_alloc ?_ _) | (with_reducible refine Kd.C_drewN ?_ _) | (with_reducible refine Kd.C_drew ?_))); (case side2 => exact HC0_2.out); rintro e w10 ⟨rfl, hb⟩; refine ⟨_, rfl, ?_⟩; have n0_ := Aside0.mk (blk_below (g := gb413) (o := .cells #[.int .i64 a0_0, .int .i64 a0_1, .slice A0_2 l0_2.length c0_2] 32 (0, 0)) zK hb); have n1_ := Aside0.mk (below_step zB hb); clear BK413; clear HB; have BK413 := n0_; have HB := n1_; clear n0_ n1_; (try clear hb); (try clear hb2); (try clear hk); (try clear hi)))
    go_ret
    exact ⟨by first | rfl | (simp [errW_none, errW_some] <;> rfl) | (simp [*, errW_none, errW_some] <;> rfl), zB⟩

-- NOT PRINTED: function 6 (laws_FnExactSignatureOfWord)

end Go.Proofs.Ytcklefgkbddlhaa.P
