/- What a call of each Go function named below comes to is what the plain Lean function beside it says. Made by a program of this session out of the print of the translation; Lean checks it. -/
import Derived.Test.YtcklefgkbddlhaaPx0
import Derived.Test.YtcklefgkbddlhaaPx1
import Derived.Test.YtcklefgkbddlhaaPx8
import Derived.Test.YtcklefgkbddlhaaPx9
import Derived.Test.YtcklefgkbddlhaaPx18
import Derived.Test.YtcklefgkbddlhaaPx19
namespace Go.Proofs.Ytcklefgkbddlhaa.P
open Go.RowKit Go.Proofs.YtcklefgkbddlhaaW.PrintWords Go.Proofs.YtcklefgkbddlhaaW.PrintLast Go.Proofs.YtcklefgkbddlhaaW.PrintMore
attribute [local go_sem] max2_int min2_int max_two min_two max_three min_three max_four min_four   -- for this text's walks alone
set_option linter.unusedVariables false
set_option linter.unusedSimpArgs false


/-! ### laws_FnExactReadByTables: function 3 -/
def laws_FnExactReadByTables.j0 : Nat → Bool → Int → Int → List (S124) → Int → Int → List (S89) → Option (Bool)
  | 0, _, _, _, _, _, _, _ => none
  | k + 1, x42, x441000, x441001, x441002, x457000, x457001, x457002 => if x42 = true then (some false) else ((laws_toSeries.f k x441000 x441001 x441002).bind fun bt462 => ((laws_eqSeries.f k x457000 x457001 x457002 bt462.1 bt462.2.1 bt462.2.2).bind fun t467 => (if t467 = true then (some true) else (some false))))
def laws_FnExactReadByTables.f (k : Nat) (a0_0 : Int) (a0_1 : Int) (l0_2 : List (S124)) (a1 : ByteArray) : Option (Bool) := if (a1.size : Int) > 1048576 then (some true) else ((laws_szSeries.f k a0_0 a0_1 l0_2 1048576).bind fun t441 => (if t441 < 0 then (some true) else ((laws_toSeries.f k a0_0 a0_1 l0_2).bind fun bt442 => ((spec_ReadByTables.f k bt442.1 bt442.2.1 bt442.2.2 a1).bind fun bt447 => ((laws_toSeries.f k a0_0 a0_1 l0_2).bind fun bt451 => ((impl_ReadByTables.f k bt451.1 bt451.2.1 bt451.2.2 a1).bind fun bt457 => ((laws_eqFraction.f bt457.1 bt457.2.1 bt447.1 bt447.2.1).bind fun t461 => (if t461 = true then (laws_FnExactReadByTables.j0 k (bt457.2.2 != bt447.2.2) a0_0 a0_1 l0_2 bt451.1 bt451.2.1 bt451.2.2) else (laws_FnExactReadByTables.j0 k true a0_0 a0_1 l0_2 bt451.1 bt451.2.1 bt451.2.2)))))))))
theorem laws_FnExactReadByTables.mono_l : ∀ k, (∀ y0 y1 y2 y3 y4 y5 y6, LeO (laws_FnExactReadByTables.j0 k y0 y1 y2 y3 y4 y5 y6) (laws_FnExactReadByTables.j0 (k + 1) y0 y1 y2 y3 y4 y5 y6))
  | 0 => fun _ _ _ _ _ _ _ r h => by simp [laws_FnExactReadByTables.j0] at h
  | k + 1 => by
    have ih0 := laws_FnExactReadByTables.mono_l k
    · intro y0 y1 y2 y3 y4 y5 y6
      unfold laws_FnExactReadByTables.j0
      repeat' first
      | (with_reducible exact ih0 _ _ _ _ _ _ _)
      | (with_reducible exact impl_ReadByTables.mono _ _ _ _ _)
      | (with_reducible exact laws_eqSeries.mono _ _ _ _ _ _ _)
      | (with_reducible exact laws_szSeries.mono _ _ _ _ _)
      | (with_reducible exact laws_toSeries.mono _ _ _ _)
      | (with_reducible exact spec_ReadByTables.mono _ _ _ _ _)
      | (with_reducible exact LeO.refl _)
      | (with_reducible exact LeO.none _)
      | (with_reducible refine LeO.ite ?_ ?_)
      | (with_reducible refine LeO.bind ?_ (fun _ => ?_))
      | exact ih0 _ _ _ _ _ _ _
      | exact impl_ReadByTables.mono _ _ _ _ _
      | exact laws_eqSeries.mono _ _ _ _ _ _ _
      | exact laws_szSeries.mono _ _ _ _ _
      | exact laws_toSeries.mono _ _ _ _
      | exact spec_ReadByTables.mono _ _ _ _ _
      | exact LeO.none _
      | refine LeO.ite ?_ ?_
      | refine LeO.bind ?_ (fun _ => ?_)
theorem laws_FnExactReadByTables.mono : ∀ a0 a1 a2 a3 k, LeO (laws_FnExactReadByTables.f k a0 a1 a2 a3) (laws_FnExactReadByTables.f (k + 1) a0 a1 a2 a3) := by
  intro a0 a1 a2 a3 k
  have ih0 := laws_FnExactReadByTables.mono_l k
  unfold laws_FnExactReadByTables.f
  repeat' first
      | (with_reducible exact ih0 _ _ _ _ _ _ _)
      | (with_reducible exact impl_ReadByTables.mono _ _ _ _ _)
      | (with_reducible exact laws_eqSeries.mono _ _ _ _ _ _ _)
      | (with_reducible exact laws_szSeries.mono _ _ _ _ _)
      | (with_reducible exact laws_toSeries.mono _ _ _ _)
      | (with_reducible exact spec_ReadByTables.mono _ _ _ _ _)
      | (with_reducible exact LeO.refl _)
      | (with_reducible exact LeO.none _)
      | (with_reducible refine LeO.ite ?_ ?_)
      | (with_reducible refine LeO.bind ?_ (fun _ => ?_))
      | exact ih0 _ _ _ _ _ _ _
      | exact impl_ReadByTables.mono _ _ _ _ _
      | exact laws_eqSeries.mono _ _ _ _ _ _ _
      | exact laws_szSeries.mono _ _ _ _ _
      | exact laws_toSeries.mono _ _ _ _
      | exact spec_ReadByTables.mono _ _ _ _ _
      | exact LeO.none _
      | refine LeO.ite ?_ ?_
      | refine LeO.bind ?_ (fun _ => ?_)
set_option maxHeartbeats 8000000 in
set_option maxRecDepth 100000 in
theorem laws_FnExactReadByTables.calls (k : Nat) (a0_0 : Int) (a0_1 : Int) (A0_2 : Option Addr) (c0_2 : Nat) (l0_2 : List (S124)) (a1 : ByteArray) (r : Bool) (w : World) (hr0_2 : Kd.C k124 w A0_2 l0_2.length l0_2) (hc0_2 : l0_2.length ≤ c0_2) (h : laws_FnExactReadByTables.f k a0_0 a0_1 l0_2 a1 = some r) :
    Calls Try.prog 3 #[.agg #[.int .i64 a0_0, .int .i64 a0_1, .slice A0_2 l0_2.length c0_2], .string a1] w fun e w' => e = .returned (.bool r) ∧ Below w.heap.size w w' := by
  have hu24 := Try.underlying24
  have hu27 := Try.underlying27
  have hu32 := Try.underlying32
  have HR0_2 := Aside0.mk hr0_2
  have HC0_2 := Aside0.mk hc0_2
  clear hr0_2 hc0_2
  have HB := Aside0.mk (Below.refl w.heap.size w)
  have H : (if (a1.size : Int) > 1048576 then (some true) else ((laws_szSeries.f k a0_0 a0_1 l0_2 1048576).bind fun t441 => (if t441 < 0 then (some true) else ((laws_toSeries.f k a0_0 a0_1 l0_2).bind fun bt442 => ((spec_ReadByTables.f k bt442.1 bt442.2.1 bt442.2.2 a1).bind fun bt447 => ((laws_toSeries.f k a0_0 a0_1 l0_2).bind fun bt451 => ((impl_ReadByTables.f k bt451.1 bt451.2.1 bt451.2.2 a1).bind fun bt457 => ((laws_eqFraction.f bt457.1 bt457.2.1 bt447.1 bt447.2.1).bind fun t461 => (if t461 = true then (laws_FnExactReadByTables.j0 k (bt457.2.2 != bt447.2.2) a0_0 a0_1 l0_2 bt451.1 bt451.2.1 bt451.2.2) else (laws_FnExactReadByTables.j0 k true a0_0 a0_1 l0_2 bt451.1 bt451.2.1 bt451.2.2)))))))))) = some r := h
  clear h
  by_cases c3 : (a1.size : Int) > 1048576
  · rw [if_pos c3] at H
    have c3b0 : decide (1048576 < (a1.size : Int)) = true := decide_eq_true c3
    have c3b1 : decide (1048576 < a1.size) = true := decide_eq_true (by omega)
    clear c3
    obtain rfl := Option.some.inj H
    go_enter Try.func3, Try.ntmps3
    go_wp2_with (first | ((with_reducible refine gate_dst (N := 2) rfl ?_); refine box_event ?hg (N := 2) ?hd (cs := #[.int .i64 a0_0, .int .i64 a0_1, .slice A0_2 l0_2.length c0_2]) (t := 24) ?hr ?_; (case hd => rfl); (case hg => rfl); (case hr => first | (go_simp; done) | (go_simp; rfl)); intro gb440 hg w4 hbox hb; have n0_ := Aside0.mk (below_step zB hb); have n1_ := Aside0.mk (hbox); have n2_ := Aside0.mk ((by rw [hg]; exact (below_size zB) : w.heap.size ≤ gb440)); have n3_ := Aside0.mk ((by rw [hg]; exact (below_size zB) : w.heap.size ≤ gb440)); clear HB; have HB := n0_; have BK440 := n1_; have GW440 := n2_; have GE440 := n3_; clear n0_ n1_ n2_ n3_; clear hb hbox hg))
    go_ret
    exact ⟨by first | rfl | (simp [errW_none, errW_some] <;> rfl) | (simp [*, errW_none, errW_some] <;> rfl), zB⟩
  · rw [if_neg c3] at H
    have c3b0 : decide (1048576 < (a1.size : Int)) = false := decide_eq_false c3
    have c3b1 : decide (1048576 < a1.size) = false := decide_eq_false (by omega)
    clear c3
    replace H := Option.bind_eq_some_iff.mp H
    obtain ⟨t441, A50, H⟩ := H
    replace H : (if t441 < 0 then (some true) else ((laws_toSeries.f k a0_0 a0_1 l0_2).bind fun bt442 => ((spec_ReadByTables.f k bt442.1 bt442.2.1 bt442.2.2 a1).bind fun bt447 => ((laws_toSeries.f k a0_0 a0_1 l0_2).bind fun bt451 => ((impl_ReadByTables.f k bt451.1 bt451.2.1 bt451.2.2 a1).bind fun bt457 => ((laws_eqFraction.f bt457.1 bt457.2.1 bt447.1 bt447.2.1).bind fun t461 => (if t461 = true then (laws_FnExactReadByTables.j0 k (bt457.2.2 != bt447.2.2) a0_0 a0_1 l0_2 bt451.1 bt451.2.1 bt451.2.2) else (laws_FnExactReadByTables.j0 k true a0_0 a0_1 l0_2 bt451.1 bt451.2.1 bt451.2.2)))))))) = some r := H
    have A5 := Aside0.mk A50
    clear A50
    by_cases c6 : t441 < 0
    · rw [if_pos c6] at H
      have c6b0 : decide (t441 < 0) = true := decide_eq_true c6
      clear c6
      obtain rfl := Option.some.inj H
      go_enter Try.func3, Try.ntmps3
      go_wp2_with (first | ((with_reducible refine gate_dst (N := 2) rfl ?_); refine box_event ?hg (N := 2) ?hd (cs := #[.int .i64 a0_0, .int .i64 a0_1, .slice A0_2 l0_2.length c0_2]) (t := 24) ?hr ?_; (case hd => rfl); (case hg => rfl); (case hr => first | (go_simp; done) | (go_simp; rfl)); intro gb440 hg w7 hbox hb; have n0_ := Aside0.mk (below_step zB hb); have n1_ := Aside0.mk (hbox); have n2_ := Aside0.mk ((by rw [hg]; exact (below_size zB) : w.heap.size ≤ gb440)); have n3_ := Aside0.mk ((by rw [hg]; exact (below_size zB) : w.heap.size ≤ gb440)); clear HB; have HB := n0_; have BK440 := n1_; have GW440 := n2_; have GE440 := n3_; clear n0_ n1_ n2_ n3_; clear hb hbox hg; have hcz8_0 : w7.cell? ⟨gb440, 0, none⟩ = some (.int .i64 a0_0) := (blk_cell BK440.out 0).trans rfl; have hcz8_1 : w7.cell? ⟨gb440, 1, none⟩ = some (.int .i64 a0_1) := (blk_cell BK440.out 1).trans rfl; have hcz8_2 : w7.cell? ⟨gb440, 2, none⟩ = some (.slice A0_2 l0_2.length c0_2) := (blk_cell BK440.out 2).trans rfl; have hfz8_0 := blk_frozen BK440.out 0; have hfz8_1 := blk_frozen BK440.out 1; have hfz8_2 := blk_frozen BK440.out 2) | ((with_reducible refine gate_callee (f := 12) rfl ?_); refine goesL_ (some 16) rfl rfl Try.func12 (by kernel_rfl) rfl #[.agg #[.int .i64 a0_0, .int .i64 a0_1, .slice A0_2 l0_2.length c0_2], .int .i64 1048576] rfl zM ?_; (with_reducible refine (laws_szSeries.calls k a0_0 a0_1 _ _ l0_2 1048576 t441 _ ?side1 ?side2 A5.out).mono ?_); (case side1 => repeat (first | exact (Kd.C_below HR0_2.out HB.out) | (with_reducible refine Kd.C_alloc ?_ _) | (with_reducible refine Kd.C_drewN ?_ _) | (with_reducible refine Kd.C_drew ?_))); (case side2 => exact HC0_2.out); rintro e w9 ⟨rfl, hb⟩; refine ⟨_, rfl, ?_⟩; have n0_ := Aside0.mk (blk_below (g := gb440) (o := .cells #[.int .i64 a0_0, .int .i64 a0_1, .slice A0_2 l0_2.length c0_2] 24 (0, 0)) zK hb); have n1_ := Aside0.mk (below_step zB hb); clear BK440; clear HB; have BK440 := n0_; have HB := n1_; clear n0_ n1_; (try clear hb); (try clear hb2); (try clear hk); (try clear hi)))
      go_ret
      exact ⟨by first | rfl | (simp [errW_none, errW_some] <;> rfl) | (simp [*, errW_none, errW_some] <;> rfl), zB⟩
    · rw [if_neg c6] at H
      have c6b0 : decide (t441 < 0) = false := decide_eq_false c6
      clear c6
      replace H := Option.bind_eq_some_iff.mp H
      obtain ⟨⟨t442, t443, t444⟩, A100, H⟩ := H
      replace H : ((spec_ReadByTables.f k t442 t443 t444 a1).bind fun bt447 => ((laws_toSeries.f k a0_0 a0_1 l0_2).bind fun bt451 => ((impl_ReadByTables.f k bt451.1 bt451.2.1 bt451.2.2 a1).bind fun bt457 => ((laws_eqFraction.f bt457.1 bt457.2.1 bt447.1 bt447.2.1).bind fun t461 => (if t461 = true then (laws_FnExactReadByTables.j0 k (bt457.2.2 != bt447.2.2) a0_0 a0_1 l0_2 bt451.1 bt451.2.1 bt451.2.2) else (laws_FnExactReadByTables.j0 k true a0_0 a0_1 l0_2 bt451.1 bt451.2.1 bt451.2.2)))))) = some r := H
      have A10 := Aside0.mk A100
      clear A100
      replace H := Option.bind_eq_some_iff.mp H
      obtain ⟨⟨t447, t448, t449⟩, A110, H⟩ := H
      replace H : ((laws_toSeries.f k a0_0 a0_1 l0_2).bind fun bt451 => ((impl_ReadByTables.f k bt451.1 bt451.2.1 bt451.2.2 a1).bind fun bt457 => ((laws_eqFraction.f bt457.1 bt457.2.1 t447 t448).bind fun t461 => (if t461 = true then (laws_FnExactReadByTables.j0 k (bt457.2.2 != t449) a0_0 a0_1 l0_2 bt451.1 bt451.2.1 bt451.2.2) else (laws_FnExactReadByTables.j0 k true a0_0 a0_1 l0_2 bt451.1 bt451.2.1 bt451.2.2))))) = some r := H
      have A11 := Aside0.mk A110
      clear A110
      replace H := Option.bind_eq_some_iff.mp H
      obtain ⟨⟨t451, t452, t453⟩, A120, H⟩ := H
      replace H : ((impl_ReadByTables.f k t451 t452 t453 a1).bind fun bt457 => ((laws_eqFraction.f bt457.1 bt457.2.1 t447 t448).bind fun t461 => (if t461 = true then (laws_FnExactReadByTables.j0 k (bt457.2.2 != t449) a0_0 a0_1 l0_2 t451 t452 t453) else (laws_FnExactReadByTables.j0 k true a0_0 a0_1 l0_2 t451 t452 t453)))) = some r := H
      have A12 := Aside0.mk A120
      clear A120
      replace H := Option.bind_eq_some_iff.mp H
      obtain ⟨⟨t457, t458, t459⟩, A130, H⟩ := H
      replace H : ((laws_eqFraction.f t457 t458 t447 t448).bind fun t461 => (if t461 = true then (laws_FnExactReadByTables.j0 k (t459 != t449) a0_0 a0_1 l0_2 t451 t452 t453) else (laws_FnExactReadByTables.j0 k true a0_0 a0_1 l0_2 t451 t452 t453))) = some r := H
      have A13 := Aside0.mk A130
      clear A130
      have HC14 := Aside0.mk H
      clear H
      go_enter Try.func3, Try.ntmps3
      go_upto_region 10 with (first | ((with_reducible refine gate_dst (N := 2) rfl ?_); refine box_event ?hg (N := 2) ?hd (cs := #[.int .i64 a0_0, .int .i64 a0_1, .slice A0_2 l0_2.length c0_2]) (t := 24) ?hr ?_; (case hd => rfl); (case hg => rfl); (case hr => first | (go_simp; done) | (go_simp; rfl)); intro gb440 hg w15 hbox hb; have n0_ := Aside0.mk (below_step zB hb); have n1_ := Aside0.mk (hbox); have n2_ := Aside0.mk ((by rw [hg]; exact (below_size zB) : w.heap.size ≤ gb440)); have n3_ := Aside0.mk ((by rw [hg]; exact (below_size zB) : w.heap.size ≤ gb440)); clear HB; have HB := n0_; have BK440 := n1_; have GW440 := n2_; have GE440 := n3_; clear n0_ n1_ n2_ n3_; clear hb hbox hg; have hcz16_0 : w15.cell? ⟨gb440, 0, none⟩ = some (.int .i64 a0_0) := (blk_cell BK440.out 0).trans rfl; have hcz16_1 : w15.cell? ⟨gb440, 1, none⟩ = some (.int .i64 a0_1) := (blk_cell BK440.out 1).trans rfl; have hcz16_2 : w15.cell? ⟨gb440, 2, none⟩ = some (.slice A0_2 l0_2.length c0_2) := (blk_cell BK440.out 2).trans rfl; have hfz16_0 := blk_frozen BK440.out 0; have hfz16_1 := blk_frozen BK440.out 1; have hfz16_2 := blk_frozen BK440.out 2) | ((with_reducible refine gate_callee (f := 12) rfl ?_); refine goesL_ (some 16) rfl rfl Try.func12 (by kernel_rfl) rfl #[.agg #[.int .i64 a0_0, .int .i64 a0_1, .slice A0_2 l0_2.length c0_2], .int .i64 1048576] rfl zM ?_; (with_reducible refine (laws_szSeries.calls k a0_0 a0_1 _ _ l0_2 1048576 t441 _ ?side1 ?side2 A5.out).mono ?_); (case side1 => repeat (first | exact (Kd.C_below HR0_2.out HB.out) | (with_reducible refine Kd.C_alloc ?_ _) | (with_reducible refine Kd.C_drewN ?_ _) | (with_reducible refine Kd.C_drew ?_))); (case side2 => exact HC0_2.out); rintro e w17 ⟨rfl, hb⟩; refine ⟨_, rfl, ?_⟩; have n0_ := Aside0.mk (blk_below (g := gb440) (o := .cells #[.int .i64 a0_0, .int .i64 a0_1, .slice A0_2 l0_2.length c0_2] 24 (0, 0)) zK hb); have n1_ := Aside0.mk (below_step zB hb); clear BK440; clear HB; have BK440 := n0_; have HB := n1_; clear n0_ n1_; (try clear hb); (try clear hb2); (try clear hk); (try clear hi); have hcz18_0 : w17.cell? ⟨gb440, 0, none⟩ = some (.int .i64 a0_0) := (blk_cell BK440.out 0).trans rfl; have hcz18_1 : w17.cell? ⟨gb440, 1, none⟩ = some (.int .i64 a0_1) := (blk_cell BK440.out 1).trans rfl; have hcz18_2 : w17.cell? ⟨gb440, 2, none⟩ = some (.slice A0_2 l0_2.length c0_2) := (blk_cell BK440.out 2).trans rfl; have hfz18_0 := blk_frozen BK440.out 0; have hfz18_1 := blk_frozen BK440.out 1; have hfz18_2 := blk_frozen BK440.out 2) | ((with_reducible refine gate_callee (f := 14) rfl ?_); refine goesL_ (some 21) rfl rfl Try.func14 (by kernel_rfl) rfl #[.agg #[.int .i64 a0_0, .int .i64 a0_1, .slice A0_2 l0_2.length c0_2]] rfl zM ?_; (with_reducible refine (laws_toSeries.calls k a0_0 a0_1 _ _ l0_2 t442 t443 t444 _ ?side1 ?side2 A10.out).mono ?_); (case side1 => repeat (first | exact (Kd.C_below HR0_2.out HB.out) | (with_reducible refine Kd.C_alloc ?_ _) | (with_reducible refine Kd.C_drewN ?_ _) | (with_reducible refine Kd.C_drew ?_))); (case side2 => exact HC0_2.out); rintro e w19 ⟨v445, rfl, ho0, hb⟩; refine ⟨_, rfl, ?_⟩; have n0_ := Aside0.mk (Kd.R_lower ho0 (below_size zB)); have n1_ := Aside0.mk (blk_below (g := gb440) (o := .cells #[.int .i64 a0_0, .int .i64 a0_1, .slice A0_2 l0_2.length c0_2] 24 (0, 0)) zK hb); have n2_ := Aside0.mk (below_step zB hb); clear BK440; clear HB; have HO446 := n0_; have BK440 := n1_; have HB := n2_; clear n0_ n1_ n2_; (try clear hb); (try clear hb2); (try clear hk); (try clear hi); (try clear ho0); obtain ⟨Ao20, co20, eo20⟩ := Kd.R_slice HO446.out; subst eo20) | ((with_reducible refine gate_callee (f := 13) rfl ?_); refine goesL_ (some 23) rfl rfl Try.func13 (by kernel_rfl) rfl #[.agg #[.int .i64 t442, .int .i64 t443, .slice Ao20 t444.length co20], .string a1] rfl zM ?_; (with_reducible refine (spec_ReadByTables.calls k t442 t443 _ _ t444 a1 t447 t448 t449 _ ?side1 ?side2 A11.out).mono ?_); (case side1 => repeat (first | exact (Kd.R_reads' HO446.out).2.2 | (with_reducible refine Kd.C_alloc ?_ _) | (with_reducible refine Kd.C_drewN ?_ _) | (with_reducible refine Kd.C_drew ?_))); (case side2 => exact (Kd.R_reads' HO446.out).2.1); rintro e w21 ⟨rfl, hb⟩; refine ⟨_, rfl, ?_⟩; have n0_ := Aside0.mk (Kd.R_below zR hb); have n1_ := Aside0.mk (blk_below (g := gb440) (o := .cells #[.int .i64 a0_0, .int .i64 a0_1, .slice A0_2 l0_2.length c0_2] 24 (0, 0)) zK hb); have n2_ := Aside0.mk (below_step zB hb); clear HO446; clear BK440; clear HB; have HO446 := n0_; have BK440 := n1_; have HB := n2_; clear n0_ n1_ n2_; (try clear hb); (try clear hb2); (try clear hk); (try clear hi)) | ((with_reducible refine gate_dst (N := 6) rfl ?_); refine box_event ?hg (N := 6) ?hd (cs := #[.int .i64 0, .int .i64 0]) (t := 27) ?hr ?_; (case hd => rfl); (case hg => rfl); (case hr => first | (go_simp; done) | (go_simp; rfl)); intro gb450 hg w22 hbox hb; have n0_ := Aside0.mk (Kd.R_below zR hb); have n1_ := Aside0.mk (blk_below (g := gb440) (o := .cells #[.int .i64 a0_0, .int .i64 a0_1, .slice A0_2 l0_2.length c0_2] 24 (0, 0)) zK hb); have n2_ := Aside0.mk (below_step zB hb); have n3_ := Aside0.mk (hbox); have n4_ := Aside0.mk ((by rw [hg]; exact (below_size zB) : w.heap.size ≤ gb450)); have n5_ := Aside0.mk ((by rw [hg]; exact (below_size zB) : w.heap.size ≤ gb450)); have n6_ := Aside0.mk ((by rw [hg]; exact Nat.ne_of_lt (blk_lt (g := gb440) (o := .cells #[.int .i64 a0_0, .int .i64 a0_1, .slice A0_2 l0_2.length c0_2] 24 (0, 0)) zK) : gb440 ≠ gb450)); have n7_ := Aside0.mk ((by rw [hg]; exact Nat.ne_of_gt (blk_lt (g := gb440) (o := .cells #[.int .i64 a0_0, .int .i64 a0_1, .slice A0_2 l0_2.length c0_2] 24 (0, 0)) zK) : gb450 ≠ gb440)); clear HO446; clear BK440; clear HB; have HO446 := n0_; have BK440 := n1_; have HB := n2_; have BK450 := n3_; have GW450 := n4_; have GE450 := n5_; have NB440_450 := n6_; have NB450_440 := n7_; clear n0_ n1_ n2_ n3_ n4_ n5_ n6_ n7_; clear hb hbox hg; have hnb23 := NB450_440.out; have hnc23 := NB440_450.out; have hcz24_0 : w22.cell? ⟨gb450, 0, none⟩ = some (.int .i64 0) := (blk_cell BK450.out 0).trans rfl; have hcz24_1 : w22.cell? ⟨gb450, 1, none⟩ = some (.int .i64 0) := (blk_cell BK450.out 1).trans rfl; have hfz24_0 := blk_frozen BK450.out 0; have hfz24_1 := blk_frozen BK450.out 1; have hcz25_0 : w22.cell? ⟨gb440, 0, none⟩ = some (.int .i64 a0_0) := (blk_cell BK440.out 0).trans rfl; have hcz25_1 : w22.cell? ⟨gb440, 1, none⟩ = some (.int .i64 a0_1) := (blk_cell BK440.out 1).trans rfl; have hcz25_2 : w22.cell? ⟨gb440, 2, none⟩ = some (.slice A0_2 l0_2.length c0_2) := (blk_cell BK440.out 2).trans rfl; have hfz25_0 := blk_frozen BK440.out 0; have hfz25_1 := blk_frozen BK440.out 1; have hfz25_2 := blk_frozen BK440.out 2) | ((with_reducible refine gate_callee (f := 14) rfl ?_); refine goesL_ (some 27) rfl rfl Try.func14 (by kernel_rfl) rfl #[.agg #[.int .i64 a0_0, .int .i64 a0_1, .slice A0_2 l0_2.length c0_2]] rfl zM ?_; (with_reducible refine (laws_toSeries.calls k a0_0 a0_1 _ _ l0_2 t451 t452 t453 _ ?side1 ?side2 A12.out).mono ?_); (case side1 => exact Kd.C_below HR0_2.out zB); (case side2 => exact HC0_2.out); rintro e w26 ⟨v454, rfl, ho0, hb⟩; refine ⟨_, rfl, ?_⟩; have n0_ := Aside0.mk (Kd.R_elder' (by (with_reducible repeat (first | apply Kd.R_alloc | apply Kd.R_drewN | apply Kd.R_drew)); exact (Kd.R_mono (Kd.R_far (p := ⟨gb450, 1, none⟩) (Kd.R_far (p := ⟨gb450, 0, none⟩) (Kd.R_types HO446.out BK450.out (by decide)) (fun _ hk => hk.2) (.int .i64 t447)) (fun _ hk => hk.2) (.int .i64 t448)) (fun _ h_ => h_.1))) (Kd.R_base ho0) hb); have n1_ := Aside0.mk (Kd.R_lower (Kd.R_new' ho0 (Kd.R_lt (by (with_reducible repeat (first | apply Kd.R_alloc | apply Kd.R_drewN | apply Kd.R_drew)); exact (Kd.R_mono (Kd.R_far (p := ⟨gb450, 1, none⟩) (Kd.R_far (p := ⟨gb450, 0, none⟩) (Kd.R_types HO446.out BK450.out (by decide)) (fun _ hk => hk.2) (.int .i64 t447)) (fun _ hk => hk.2) (.int .i64 t448)) (fun _ h_ => h_.1))))) (below_size zB)); have n2_ := Aside0.mk (blk_below (g := gb440) (o := .cells #[.int .i64 a0_0, .int .i64 a0_1, .slice A0_2 l0_2.length c0_2] 24 (0, 0)) (by (with_reducible repeat (first | refine blk_drewN ?_ _ | refine blk_drew ?_ | refine blk_alloc ?_ _)); refine blk_far ?_ NB440_450.out _; (with_reducible repeat (first | refine blk_drewN ?_ _ | refine blk_drew ?_ | refine blk_alloc ?_ _)); refine blk_far ?_ NB440_450.out _; (with_reducible repeat (first | refine blk_drewN ?_ _ | refine blk_drew ?_ | refine blk_alloc ?_ _)); exact BK440.out) hb); have n3_ := Aside0.mk (blk_below (g := gb450) (o := .cells #[.int .i64 t447, .int .i64 t448] 27 (0, 0)) (by (with_reducible repeat (first | refine blk_drewN ?_ _ | refine blk_drew ?_ | refine blk_alloc ?_ _)); refine blk_put (cs := #[.int .i64 t447, .int .i64 0]) ?_ 1 _ rfl; (with_reducible repeat (first | refine blk_drewN ?_ _ | refine blk_drew ?_ | refine blk_alloc ?_ _)); refine blk_put (cs := #[.int .i64 0, .int .i64 0]) ?_ 0 _ rfl; (with_reducible repeat (first | refine blk_drewN ?_ _ | refine blk_drew ?_ | refine blk_alloc ?_ _)); exact BK450.out) hb); have n4_ := Aside0.mk (below_step zB hb); clear HO446; clear BK440; clear BK450; clear HB; have HO446 := n0_; have HO455 := n1_; have BK440 := n2_; have BK450 := n3_; have HB := n4_; clear n0_ n1_ n2_ n3_ n4_; (try clear hb); (try clear hb2); (try clear hk); (try clear hi); (try clear ho0)) | ((with_reducible refine gate_dst (N := 8) rfl ?_); refine box_event ?hg (N := 8) ?hd (cs := #[.int .i64 0, .int .i64 0, .slice none 0 0]) (t := 32) ?hr ?_; (case hd => rfl); (case hg => rfl); (case hr => first | (go_simp; done) | (go_simp; rfl)); intro gb456 hg w27 hbox hb; have n0_ := Aside0.mk (Kd.R_below zR hb); have n1_ := Aside0.mk (Kd.R_below zR hb); have n2_ := Aside0.mk (blk_below (g := gb440) (o := .cells #[.int .i64 a0_0, .int .i64 a0_1, .slice A0_2 l0_2.length c0_2] 24 (0, 0)) zK hb); have n3_ := Aside0.mk (blk_below (g := gb450) (o := .cells #[.int .i64 t447, .int .i64 t448] 27 (0, 0)) zK hb); have n4_ := Aside0.mk (below_step zB hb); have n5_ := Aside0.mk (hbox); have n6_ := Aside0.mk ((by rw [hg]; exact (below_size zB) : w.heap.size ≤ gb456)); have n7_ := Aside0.mk ((by rw [hg]; exact (below_size zB) : w.heap.size ≤ gb456)); have n8_ := Aside0.mk ((by rw [hg]; exact Nat.ne_of_lt (blk_lt (g := gb440) (o := .cells #[.int .i64 a0_0, .int .i64 a0_1, .slice A0_2 l0_2.length c0_2] 24 (0, 0)) zK) : gb440 ≠ gb456)); have n9_ := Aside0.mk ((by rw [hg]; exact Nat.ne_of_gt (blk_lt (g := gb440) (o := .cells #[.int .i64 a0_0, .int .i64 a0_1, .slice A0_2 l0_2.length c0_2] 24 (0, 0)) zK) : gb456 ≠ gb440)); have n10_ := Aside0.mk ((by rw [hg]; exact Nat.ne_of_lt (blk_lt (g := gb450) (o := .cells #[.int .i64 t447, .int .i64 t448] 27 (0, 0)) zK) : gb450 ≠ gb456)); have n11_ := Aside0.mk ((by rw [hg]; exact Nat.ne_of_gt (blk_lt (g := gb450) (o := .cells #[.int .i64 t447, .int .i64 t448] 27 (0, 0)) zK) : gb456 ≠ gb450)); clear HO446; clear HO455; clear BK440; clear BK450; clear HB; have HO446 := n0_; have HO455 := n1_; have BK440 := n2_; have BK450 := n3_; have HB := n4_; have BK456 := n5_; have GW456 := n6_; have GE456 := n7_; have NB440_456 := n8_; have NB456_440 := n9_; have NB450_456 := n10_; have NB456_450 := n11_; clear n0_ n1_ n2_ n3_ n4_ n5_ n6_ n7_ n8_ n9_ n10_ n11_; clear hb hbox hg; have hnb28 := NB456_440.out; have hnc28 := NB440_456.out; have hnb29 := NB456_450.out; have hnc29 := NB450_456.out; have hcz30_0 : w27.cell? ⟨gb456, 0, none⟩ = some (.int .i64 0) := (blk_cell BK456.out 0).trans rfl; have hcz30_1 : w27.cell? ⟨gb456, 1, none⟩ = some (.int .i64 0) := (blk_cell BK456.out 1).trans rfl; have hcz30_2 : w27.cell? ⟨gb456, 2, none⟩ = some (.slice none 0 0) := (blk_cell BK456.out 2).trans rfl; have hfz30_0 := blk_frozen BK456.out 0; have hfz30_1 := blk_frozen BK456.out 1; have hfz30_2 := blk_frozen BK456.out 2; obtain ⟨Ao31, co31, eo31⟩ := Kd.R_slice HO455.out; subst eo31) | ((with_reducible refine gate_callee (f := 15) rfl ?_); refine goesL_ (some 31) rfl rfl Try.func15 (by kernel_rfl) rfl #[.agg #[.int .i64 t451, .int .i64 t452, .slice Ao31 t453.length co31], .string a1] rfl zM ?_; (with_reducible refine (impl_ReadByTables.calls k t451 t452 _ _ t453 a1 t457 t458 t459 _ ?side1 ?side2 A13.out).mono ?_); (case side1 => refine (Kd.R_reads' (e := 89) (base := w.heap.size) (ok := fun k_ => (True ∧ some k_ ≠ (.slice Ao20 t444.length co20 : Value).ownBlock)) (n := t453.length) (c := co31) ?_).2.2; exact (by (with_reducible repeat (first | apply Kd.R_alloc | apply Kd.R_drewN | apply Kd.R_drew)); exact (Kd.R_mono (Kd.R_far (p := ⟨gb456, 2, none⟩) (Kd.R_far (p := ⟨gb456, 1, none⟩) (Kd.R_far (p := ⟨gb456, 0, none⟩) (Kd.R_types HO455.out BK456.out (by decide)) (fun _ hk => hk.2) (.int .i64 t451)) (fun _ hk => hk.2) (.int .i64 t452)) (fun _ hk => hk.2) (.slice Ao31 t453.length co31)) (fun _ h_ => h_.1)))); (case side2 => exact (Kd.R_reads' HO455.out).2.1); rintro e w32 ⟨rfl, hb⟩; refine ⟨_, rfl, ?_⟩; have n0_ := Aside0.mk (Kd.R_below (by (with_reducible repeat (first | apply Kd.R_alloc | apply Kd.R_drewN | apply Kd.R_drew)); exact (Kd.R_mono (Kd.R_far (p := ⟨gb456, 2, none⟩) (Kd.R_far (p := ⟨gb456, 1, none⟩) (Kd.R_far (p := ⟨gb456, 0, none⟩) (Kd.R_types HO446.out BK456.out (by decide)) (fun _ hk => hk.2) (.int .i64 t451)) (fun _ hk => hk.2) (.int .i64 t452)) (fun _ hk => hk.2) (.slice Ao31 t453.length co31)) (fun _ h_ => h_.1))) hb); have n1_ := Aside0.mk (Kd.R_below (by (with_reducible repeat (first | apply Kd.R_alloc | apply Kd.R_drewN | apply Kd.R_drew)); exact (Kd.R_mono (Kd.R_far (p := ⟨gb456, 2, none⟩) (Kd.R_far (p := ⟨gb456, 1, none⟩) (Kd.R_far (p := ⟨gb456, 0, none⟩) (Kd.R_types HO455.out BK456.out (by decide)) (fun _ hk => hk.2) (.int .i64 t451)) (fun _ hk => hk.2) (.int .i64 t452)) (fun _ hk => hk.2) (.slice Ao31 t453.length co31)) (fun _ h_ => h_.1))) hb); have n2_ := Aside0.mk (blk_below (g := gb440) (o := .cells #[.int .i64 a0_0, .int .i64 a0_1, .slice A0_2 l0_2.length c0_2] 24 (0, 0)) (by (with_reducible repeat (first | refine blk_drewN ?_ _ | refine blk_drew ?_ | refine blk_alloc ?_ _)); refine blk_far ?_ NB440_456.out _; (with_reducible repeat (first | refine blk_drewN ?_ _ | refine blk_drew ?_ | refine blk_alloc ?_ _)); refine blk_far ?_ NB440_456.out _; (with_reducible repeat (first | refine blk_drewN ?_ _ | refine blk_drew ?_ | refine blk_alloc ?_ _)); refine blk_far ?_ NB440_456.out _; (with_reducible repeat (first | refine blk_drewN ?_ _ | refine blk_drew ?_ | refine blk_alloc ?_ _)); exact BK440.out) hb); have n3_ := Aside0.mk (blk_below (g := gb450) (o := .cells #[.int .i64 t447, .int .i64 t448] 27 (0, 0)) (by (with_reducible repeat (first | refine blk_drewN ?_ _ | refine blk_drew ?_ | refine blk_alloc ?_ _)); refine blk_far ?_ NB450_456.out _; (with_reducible repeat (first | refine blk_drewN ?_ _ | refine blk_drew ?_ | refine blk_alloc ?_ _)); refine blk_far ?_ NB450_456.out _; (with_reducible repeat (first | refine blk_drewN ?_ _ | refine blk_drew ?_ | refine blk_alloc ?_ _)); refine blk_far ?_ NB450_456.out _; (with_reducible repeat (first | refine blk_drewN ?_ _ | refine blk_drew ?_ | refine blk_alloc ?_ _)); exact BK450.out) hb); have n4_ := Aside0.mk (blk_below (g := gb456) (o := .cells #[.int .i64 t451, .int .i64 t452, .slice Ao31 t453.length co31] 32 (0, 0)) (by (with_reducible repeat (first | refine blk_drewN ?_ _ | refine blk_drew ?_ | refine blk_alloc ?_ _)); refine blk_put (cs := #[.int .i64 t451, .int .i64 t452, .slice none 0 0]) ?_ 2 _ rfl; (with_reducible repeat (first | refine blk_drewN ?_ _ | refine blk_drew ?_ | refine blk_alloc ?_ _)); refine blk_put (cs := #[.int .i64 t451, .int .i64 0, .slice none 0 0]) ?_ 1 _ rfl; (with_reducible repeat (first | refine blk_drewN ?_ _ | refine blk_drew ?_ | refine blk_alloc ?_ _)); refine blk_put (cs := #[.int .i64 0, .int .i64 0, .slice none 0 0]) ?_ 0 _ rfl; (with_reducible repeat (first | refine blk_drewN ?_ _ | refine blk_drew ?_ | refine blk_alloc ?_ _)); exact BK456.out) hb); have n5_ := Aside0.mk (below_step zB hb); clear HO446; clear HO455; clear BK440; clear BK450; clear BK456; clear HB; have HO446 := n0_; have HO455 := n1_; have BK440 := n2_; have BK450 := n3_; have BK456 := n4_; have HB := n5_; clear n0_ n1_ n2_ n3_ n4_ n5_; (try clear hb); (try clear hb2); (try clear hk); (try clear hi)) | ((with_reducible refine gate_dst (N := 9) rfl ?_); refine box_event ?hg (N := 9) ?hd (cs := #[.int .i64 0, .int .i64 0]) (t := 27) ?hr ?_; (case hd => rfl); (case hg => rfl); (case hr => first | (go_simp; done) | (go_simp; rfl)); intro gb460 hg w33 hbox hb; have n0_ := Aside0.mk (Kd.R_below zR hb); have n1_ := Aside0.mk (Kd.R_below zR hb); have n2_ := Aside0.mk (blk_below (g := gb440) (o := .cells #[.int .i64 a0_0, .int .i64 a0_1, .slice A0_2 l0_2.length c0_2] 24 (0, 0)) zK hb); have n3_ := Aside0.mk (blk_below (g := gb450) (o := .cells #[.int .i64 t447, .int .i64 t448] 27 (0, 0)) zK hb); have n4_ := Aside0.mk (blk_below (g := gb456) (o := .cells #[.int .i64 t451, .int .i64 t452, .slice Ao31 t453.length co31] 32 (0, 0)) zK hb); have n5_ := Aside0.mk (below_step zB hb); have n6_ := Aside0.mk (hbox); have n7_ := Aside0.mk ((by rw [hg]; exact (below_size zB) : w.heap.size ≤ gb460)); have n8_ := Aside0.mk ((by rw [hg]; exact (below_size zB) : w.heap.size ≤ gb460)); have n9_ := Aside0.mk ((by rw [hg]; exact Nat.ne_of_lt (blk_lt (g := gb440) (o := .cells #[.int .i64 a0_0, .int .i64 a0_1, .slice A0_2 l0_2.length c0_2] 24 (0, 0)) zK) : gb440 ≠ gb460)); have n10_ := Aside0.mk ((by rw [hg]; exact Nat.ne_of_gt (blk_lt (g := gb440) (o := .cells #[.int .i64 a0_0, .int .i64 a0_1, .slice A0_2 l0_2.length c0_2] 24 (0, 0)) zK) : gb460 ≠ gb440)); have n11_ := Aside0.mk ((by rw [hg]; exact Nat.ne_of_lt (blk_lt (g := gb450) (o := .cells #[.int .i64 t447, .int .i64 t448] 27 (0, 0)) zK) : gb450 ≠ gb460)); have n12_ := Aside0.mk ((by rw [hg]; exact Nat.ne_of_gt (blk_lt (g := gb450) (o := .cells #[.int .i64 t447, .int .i64 t448] 27 (0, 0)) zK) : gb460 ≠ gb450)); have n13_ := Aside0.mk ((by rw [hg]; exact Nat.ne_of_lt (blk_lt (g := gb456) (o := .cells #[.int .i64 t451, .int .i64 t452, .slice Ao31 t453.length co31] 32 (0, 0)) zK) : gb456 ≠ gb460)); have n14_ := Aside0.mk ((by rw [hg]; exact Nat.ne_of_gt (blk_lt (g := gb456) (o := .cells #[.int .i64 t451, .int .i64 t452, .slice Ao31 t453.length co31] 32 (0, 0)) zK) : gb460 ≠ gb456)); clear HO446; clear HO455; clear BK440; clear BK450; clear BK456; clear HB; have HO446 := n0_; have HO455 := n1_; have BK440 := n2_; have BK450 := n3_; have BK456 := n4_; have HB := n5_; have BK460 := n6_; have GW460 := n7_; have GE460 := n8_; have NB440_460 := n9_; have NB460_440 := n10_; have NB450_460 := n11_; have NB460_450 := n12_; have NB456_460 := n13_; have NB460_456 := n14_; clear n0_ n1_ n2_ n3_ n4_ n5_ n6_ n7_ n8_ n9_ n10_ n11_ n12_ n13_ n14_; clear hb hbox hg; have hnb34 := NB460_440.out; have hnc34 := NB440_460.out; have hnb35 := NB460_450.out; have hnc35 := NB450_460.out; have hnb36 := NB460_456.out; have hnc36 := NB456_460.out; have hcz37_0 : w33.cell? ⟨gb460, 0, none⟩ = some (.int .i64 0) := (blk_cell BK460.out 0).trans rfl; have hcz37_1 : w33.cell? ⟨gb460, 1, none⟩ = some (.int .i64 0) := (blk_cell BK460.out 1).trans rfl; have hfz37_0 := blk_frozen BK460.out 0; have hfz37_1 := blk_frozen BK460.out 1))
      (try simp only [Act.put, List.setIfInBounds_toArray, List.set_cons_zero, List.set_cons_succ])
      go_cut [42] (fun v42 wc => ∃ (kq : Nat) (x42_13 : Bool), v42 = .bool x42_13 ∧ Aside0 (laws_FnExactReadByTables.j0 kq x42_13 a0_0 a0_1 l0_2 t451 t452 t453 = some r) ∧ Aside0 (kq ≤ k) ∧ Aside0 (Kd.R k89 89 wc w.heap.size (fun _ => True) (.slice Ao31 t453.length co31) t453) ∧ Aside0 (wc.heap[gb440]? = some (.cells #[.int .i64 a0_0, .int .i64 a0_1, (.slice A0_2 l0_2.length c0_2)] 24 (0, 0))) ∧ Aside0 (wc.heap[gb450]? = some (.cells #[.int .i64 t447, .int .i64 t448] 27 (0, 0))) ∧ Aside0 (wc.heap[gb456]? = some (.cells #[.int .i64 t451, .int .i64 t452, (.slice Ao31 t453.length co31)] 32 (0, 0))) ∧ Aside0 (wc.heap[gb460]? = some (.cells #[.int .i64 t457, .int .i64 t458] 27 (0, 0))) ∧ Aside0 (Below w.heap.size w wc))
      case first =>
        have H := HC14.out
        clear HC14
        replace H := Option.bind_eq_some_iff.mp H
        obtain ⟨t461, A380, H⟩ := H
        replace H : (if t461 = true then (laws_FnExactReadByTables.j0 k (t459 != t449) a0_0 a0_1 l0_2 t451 t452 t453) else (laws_FnExactReadByTables.j0 k true a0_0 a0_1 l0_2 t451 t452 t453)) = some r := H
        have A38 := Aside0.mk A380
        clear A380
        by_cases c39 : t461 = true
        · subst c39
          have H1 : (laws_FnExactReadByTables.j0 k (t459 != t449) a0_0 a0_1 l0_2 t451 t452 t453) = some r := by rw [if_pos rfl] at H; exact H
          clear H
          have H := H1
          clear H1
          have H' := Aside0.mk H
          clear H
          have hnb40 := NB460_440.out
          have hnc40 := NB440_460.out
          have hnb41 := NB460_450.out
          have hnc41 := NB450_460.out
          have hnb42 := NB460_456.out
          have hnc42 := NB456_460.out
          have hcz43_0 : w33.cell? ⟨gb460, 0, none⟩ = some (.int .i64 0) := (blk_cell BK460.out 0).trans rfl
          have hcz43_1 : w33.cell? ⟨gb460, 1, none⟩ = some (.int .i64 0) := (blk_cell BK460.out 1).trans rfl
          have hfz43_0 := blk_frozen BK460.out 0
          have hfz43_1 := blk_frozen BK460.out 1
          have hnb44 := NB450_440.out
          have hnc44 := NB440_450.out
          have hnb45 := NB450_456.out
          have hnc45 := NB456_450.out
          have hcz46_0 : w33.cell? ⟨gb450, 0, none⟩ = some (.int .i64 t447) := (blk_cell BK450.out 0).trans rfl
          have hcz46_1 : w33.cell? ⟨gb450, 1, none⟩ = some (.int .i64 t448) := (blk_cell BK450.out 1).trans rfl
          have hfz46_0 := blk_frozen BK450.out 0
          have hfz46_1 := blk_frozen BK450.out 1
          go_wp2_with (first | ((with_reducible refine gate_callee (f := 16) rfl ?_); refine goesL_ (some 36) rfl rfl Try.func16 (by kernel_rfl) rfl #[.agg #[.int .i64 t457, .int .i64 t458], .agg #[.int .i64 t447, .int .i64 t448]] rfl zM ?_; (with_reducible refine (laws_eqFraction.calls t457 t458 t447 t448 true _ A38.out).mono ?_); rintro e w47 ⟨rfl, hb⟩; refine ⟨_, rfl, ?_⟩; have n0_ := Aside0.mk (Kd.R_below (by (with_reducible repeat (first | apply Kd.R_alloc | apply Kd.R_drewN | apply Kd.R_drew)); exact (Kd.R_mono (Kd.R_far (p := ⟨gb460, 1, none⟩) (Kd.R_far (p := ⟨gb460, 0, none⟩) (Kd.R_types HO446.out BK460.out (by decide)) (fun _ hk => hk.2) (.int .i64 t457)) (fun _ hk => hk.2) (.int .i64 t458)) (fun _ h_ => h_.1))) hb); have n1_ := Aside0.mk (Kd.R_below (by (with_reducible repeat (first | apply Kd.R_alloc | apply Kd.R_drewN | apply Kd.R_drew)); exact (Kd.R_mono (Kd.R_far (p := ⟨gb460, 1, none⟩) (Kd.R_far (p := ⟨gb460, 0, none⟩) (Kd.R_types HO455.out BK460.out (by decide)) (fun _ hk => hk.2) (.int .i64 t457)) (fun _ hk => hk.2) (.int .i64 t458)) (fun _ h_ => h_.1))) hb); have n2_ := Aside0.mk (blk_below (g := gb440) (o := .cells #[.int .i64 a0_0, .int .i64 a0_1, .slice A0_2 l0_2.length c0_2] 24 (0, 0)) (by (with_reducible repeat (first | refine blk_drewN ?_ _ | refine blk_drew ?_ | refine blk_alloc ?_ _)); refine blk_far ?_ NB440_460.out _; (with_reducible repeat (first | refine blk_drewN ?_ _ | refine blk_drew ?_ | refine blk_alloc ?_ _)); refine blk_far ?_ NB440_460.out _; (with_reducible repeat (first | refine blk_drewN ?_ _ | refine blk_drew ?_ | refine blk_alloc ?_ _)); exact BK440.out) hb); have n3_ := Aside0.mk (blk_below (g := gb450) (o := .cells #[.int .i64 t447, .int .i64 t448] 27 (0, 0)) (by (with_reducible repeat (first | refine blk_drewN ?_ _ | refine blk_drew ?_ | refine blk_alloc ?_ _)); refine blk_far ?_ NB450_460.out _; (with_reducible repeat (first | refine blk_drewN ?_ _ | refine blk_drew ?_ | refine blk_alloc ?_ _)); refine blk_far ?_ NB450_460.out _; (with_reducible repeat (first | refine blk_drewN ?_ _ | refine blk_drew ?_ | refine blk_alloc ?_ _)); exact BK450.out) hb); have n4_ := Aside0.mk (blk_below (g := gb456) (o := .cells #[.int .i64 t451, .int .i64 t452, .slice Ao31 t453.length co31] 32 (0, 0)) (by (with_reducible repeat (first | refine blk_drewN ?_ _ | refine blk_drew ?_ | refine blk_alloc ?_ _)); refine blk_far ?_ NB456_460.out _; (with_reducible repeat (first | refine blk_drewN ?_ _ | refine blk_drew ?_ | refine blk_alloc ?_ _)); refine blk_far ?_ NB456_460.out _; (with_reducible repeat (first | refine blk_drewN ?_ _ | refine blk_drew ?_ | refine blk_alloc ?_ _)); exact BK456.out) hb); have n5_ := Aside0.mk (blk_below (g := gb460) (o := .cells #[.int .i64 t457, .int .i64 t458] 27 (0, 0)) (by (with_reducible repeat (first | refine blk_drewN ?_ _ | refine blk_drew ?_ | refine blk_alloc ?_ _)); refine blk_put (cs := #[.int .i64 t457, .int .i64 0]) ?_ 1 _ rfl; (with_reducible repeat (first | refine blk_drewN ?_ _ | refine blk_drew ?_ | refine blk_alloc ?_ _)); refine blk_put (cs := #[.int .i64 0, .int .i64 0]) ?_ 0 _ rfl; (with_reducible repeat (first | refine blk_drewN ?_ _ | refine blk_drew ?_ | refine blk_alloc ?_ _)); exact BK460.out) hb); have n6_ := Aside0.mk (below_step zB hb); clear HO446; clear HO455; clear BK440; clear BK450; clear BK456; clear BK460; clear HB; have HO446 := n0_; have HO455 := n1_; have BK440 := n2_; have BK450 := n3_; have BK456 := n4_; have BK460 := n5_; have HB := n6_; clear n0_ n1_ n2_ n3_ n4_ n5_ n6_; (try clear hb); (try clear hb2); (try clear hk); (try clear hi)))
          go_meet
          case rel => exact ⟨_, ((t459 != t449)), (by first | rfl | (simp; done) | (simp [*]; done)), H', ⟨by first | omega | exact Nat.le_refl _⟩, ⟨by (with_reducible repeat (first | apply Kd.R_alloc | apply Kd.R_drewN | apply Kd.R_drew)); exact Kd.R_mono HO455.out (fun _ hk => trivial)⟩, ⟨zK⟩, ⟨zK⟩, ⟨zK⟩, ⟨zK⟩, ⟨zB⟩⟩
        · replace c39 := Bool.eq_false_iff.mpr c39
          subst c39
          have H1 : (laws_FnExactReadByTables.j0 k true a0_0 a0_1 l0_2 t451 t452 t453) = some r := by rw [if_neg (show ¬ (false = true) by decide)] at H; exact H
          clear H
          have H := H1
          clear H1
          have H' := Aside0.mk H
          clear H
          have hnb48 := NB460_440.out
          have hnc48 := NB440_460.out
          have hnb49 := NB460_450.out
          have hnc49 := NB450_460.out
          have hnb50 := NB460_456.out
          have hnc50 := NB456_460.out
          have hcz51_0 : w33.cell? ⟨gb460, 0, none⟩ = some (.int .i64 0) := (blk_cell BK460.out 0).trans rfl
          have hcz51_1 : w33.cell? ⟨gb460, 1, none⟩ = some (.int .i64 0) := (blk_cell BK460.out 1).trans rfl
          have hfz51_0 := blk_frozen BK460.out 0
          have hfz51_1 := blk_frozen BK460.out 1
          have hnb52 := NB450_440.out
          have hnc52 := NB440_450.out
          have hnb53 := NB450_456.out
          have hnc53 := NB456_450.out
          have hcz54_0 : w33.cell? ⟨gb450, 0, none⟩ = some (.int .i64 t447) := (blk_cell BK450.out 0).trans rfl
          have hcz54_1 : w33.cell? ⟨gb450, 1, none⟩ = some (.int .i64 t448) := (blk_cell BK450.out 1).trans rfl
          have hfz54_0 := blk_frozen BK450.out 0
          have hfz54_1 := blk_frozen BK450.out 1
          go_wp2_with (first | ((with_reducible refine gate_callee (f := 16) rfl ?_); refine goesL_ (some 36) rfl rfl Try.func16 (by kernel_rfl) rfl #[.agg #[.int .i64 t457, .int .i64 t458], .agg #[.int .i64 t447, .int .i64 t448]] rfl zM ?_; (with_reducible refine (laws_eqFraction.calls t457 t458 t447 t448 false _ A38.out).mono ?_); rintro e w55 ⟨rfl, hb⟩; refine ⟨_, rfl, ?_⟩; have n0_ := Aside0.mk (Kd.R_below (by (with_reducible repeat (first | apply Kd.R_alloc | apply Kd.R_drewN | apply Kd.R_drew)); exact (Kd.R_mono (Kd.R_far (p := ⟨gb460, 1, none⟩) (Kd.R_far (p := ⟨gb460, 0, none⟩) (Kd.R_types HO446.out BK460.out (by decide)) (fun _ hk => hk.2) (.int .i64 t457)) (fun _ hk => hk.2) (.int .i64 t458)) (fun _ h_ => h_.1))) hb); have n1_ := Aside0.mk (Kd.R_below (by (with_reducible repeat (first | apply Kd.R_alloc | apply Kd.R_drewN | apply Kd.R_drew)); exact (Kd.R_mono (Kd.R_far (p := ⟨gb460, 1, none⟩) (Kd.R_far (p := ⟨gb460, 0, none⟩) (Kd.R_types HO455.out BK460.out (by decide)) (fun _ hk => hk.2) (.int .i64 t457)) (fun _ hk => hk.2) (.int .i64 t458)) (fun _ h_ => h_.1))) hb); have n2_ := Aside0.mk (blk_below (g := gb440) (o := .cells #[.int .i64 a0_0, .int .i64 a0_1, .slice A0_2 l0_2.length c0_2] 24 (0, 0)) (by (with_reducible repeat (first | refine blk_drewN ?_ _ | refine blk_drew ?_ | refine blk_alloc ?_ _)); refine blk_far ?_ NB440_460.out _; (with_reducible repeat (first | refine blk_drewN ?_ _ | refine blk_drew ?_ | refine blk_alloc ?_ _)); refine blk_far ?_ NB440_460.out _; (with_reducible repeat (first | refine blk_drewN ?_ _ | refine blk_drew ?_ | refine blk_alloc ?_ _)); exact BK440.out) hb); have n3_ := Aside0.mk (blk_below (g := gb450) (o := .cells #[.int .i64 t447, .int .i64 t448] 27 (0, 0)) (by (with_reducible repeat (first | refine blk_drewN ?_ _ | refine blk_drew ?_ | refine blk_alloc ?_ _)); refine blk_far ?_ NB450_460.out _; (with_reducible repeat (first | refine blk_drewN ?_ _ | refine blk_drew ?_ | refine blk_alloc ?_ _)); refine blk_far ?_ NB450_460.out _; (with_reducible repeat (first | refine blk_drewN ?_ _ | refine blk_drew ?_ | refine blk_alloc ?_ _)); exact BK450.out) hb); have n4_ := Aside0.mk (blk_below (g := gb456) (o := .cells #[.int .i64 t451, .int .i64 t452, .slice Ao31 t453.length co31] 32 (0, 0)) (by (with_reducible repeat (first | refine blk_drewN ?_ _ | refine blk_drew ?_ | refine blk_alloc ?_ _)); refine blk_far ?_ NB456_460.out _; (with_reducible repeat (first | refine blk_drewN ?_ _ | refine blk_drew ?_ | refine blk_alloc ?_ _)); refine blk_far ?_ NB456_460.out _; (with_reducible repeat (first | refine blk_drewN ?_ _ | refine blk_drew ?_ | refine blk_alloc ?_ _)); exact BK456.out) hb); have n5_ := Aside0.mk (blk_below (g := gb460) (o := .cells #[.int .i64 t457, .int .i64 t458] 27 (0, 0)) (by (with_reducible repeat (first | refine blk_drewN ?_ _ | refine blk_drew ?_ | refine blk_alloc ?_ _)); refine blk_put (cs := #[.int .i64 t457, .int .i64 0]) ?_ 1 _ rfl; (with_reducible repeat (first | refine blk_drewN ?_ _ | refine blk_drew ?_ | refine blk_alloc ?_ _)); refine blk_put (cs := #[.int .i64 0, .int .i64 0]) ?_ 0 _ rfl; (with_reducible repeat (first | refine blk_drewN ?_ _ | refine blk_drew ?_ | refine blk_alloc ?_ _)); exact BK460.out) hb); have n6_ := Aside0.mk (below_step zB hb); clear HO446; clear HO455; clear BK440; clear BK450; clear BK456; clear BK460; clear HB; have HO446 := n0_; have HO455 := n1_; have BK440 := n2_; have BK450 := n3_; have BK456 := n4_; have BK460 := n5_; have HB := n6_; clear n0_ n1_ n2_ n3_ n4_ n5_ n6_; (try clear hb); (try clear hb2); (try clear hk); (try clear hi)))
          go_meet
          case rel => exact ⟨_, (true), (by first | rfl | (simp; done) | (simp [*]; done)), H', ⟨by first | omega | exact Nat.le_refl _⟩, ⟨by (with_reducible repeat (first | apply Kd.R_alloc | apply Kd.R_drewN | apply Kd.R_drew)); exact Kd.R_mono HO455.out (fun _ hk => trivial)⟩, ⟨zK⟩, ⟨zK⟩, ⟨zK⟩, ⟨zK⟩, ⟨zB⟩⟩
      case rest =>
        clear HC14
        obtain ⟨kq, x42_13, rfl, HA, HJ13, HO_457002, BK440, BK450, BK456, BK460, HB⟩ := hcut
        cases kq with
        | zero => exact absurd HA.out (by simp [laws_FnExactReadByTables.j0])
        | succ kj13 =>
          have H := HA.out
          clear HA
          simp only [laws_FnExactReadByTables.j0] at H
          by_cases c56 : x42_13 = true
          · subst c56
            have H1 : (some false) = some r := by rw [if_pos rfl] at H; exact H
            clear H
            have H := H1
            clear H1
            obtain rfl := Option.some.inj H
            go_wp2
            go_ret
            exact ⟨by first | rfl | (simp [errW_none, errW_some] <;> rfl) | (simp [*, errW_none, errW_some] <;> rfl), zB⟩
          · replace c56 := Bool.eq_false_iff.mpr c56
            subst c56
            have H1 : ((laws_toSeries.f kj13 a0_0 a0_1 l0_2).bind fun bt462 => ((laws_eqSeries.f kj13 t451 t452 t453 bt462.1 bt462.2.1 bt462.2.2).bind fun t467 => (if t467 = true then (some true) else (some false)))) = some r := by rw [if_neg (show ¬ (false = true) by decide)] at H; exact H
            clear H
            have H := H1
            clear H1
            replace H := Option.bind_eq_some_iff.mp H
            obtain ⟨⟨t462, t463, t464⟩, A570, H⟩ := H
            replace H : ((laws_eqSeries.f kj13 t451 t452 t453 t462 t463 t464).bind fun t467 => (if t467 = true then (some true) else (some false))) = some r := H
            have A57 := Aside0.mk A570
            clear A570
            replace H := Option.bind_eq_some_iff.mp H
            obtain ⟨t467, A580, H⟩ := H
            replace H : (if t467 = true then (some true) else (some false)) = some r := H
            have A58 := Aside0.mk A580
            clear A580
            by_cases c59 : t467 = true
            ·subst c59
             have H1 : (some true) = some r := by rw [if_pos rfl] at H; exact H
             clear H
             have H := H1
             clear H1
             obtain rfl := Option.some.inj H
             try go_wp2
             have n0_ := Aside0.mk (Kd.R_drew HO_457002.out)
             have n1_ := Aside0.mk (blk_drew BK440.out)
             have n2_ := Aside0.mk (blk_drew BK450.out)
             have n3_ := Aside0.mk (blk_drew BK456.out)
             have n4_ := Aside0.mk (blk_drew BK460.out)
             have n5_ := Aside0.mk (below_drew1 HB.out)
             clear HO_457002
             clear BK440
             clear BK450
             clear BK456
             clear BK460
             clear HB
             have HO_457002 := n0_
             have BK440 := n1_
             have BK450 := n2_
             have BK456 := n3_
             have BK460 := n4_
             have HB := n5_
             clear n0_ n1_ n2_ n3_ n4_ n5_
             refine start_ (n := 5) (S := fun w' => w'.cell? ⟨gb456, 0, none⟩ = some (.int .i64 t451) ∧ w'.cell? ⟨gb456, 1, none⟩ = some (.int .i64 t452) ∧ w'.cell? ⟨gb456, 2, none⟩ = some (.slice Ao31 t453.length co31) ∧ w'.cell? ⟨gb440, 0, none⟩ = some (.int .i64 a0_0) ∧ w'.cell? ⟨gb440, 1, none⟩ = some (.int .i64 a0_1) ∧ w'.cell? ⟨gb440, 2, none⟩ = some (.slice A0_2 l0_2.length c0_2)) (ds := []) #[false, false, false, false, false] (by kernel_rfl) rfl rfl ⟨(blk_cell BK456.out 0).trans rfl, (blk_cell BK456.out 1).trans rfl, (blk_cell BK456.out 2).trans rfl, (blk_cell BK440.out 0).trans rfl, (blk_cell BK440.out 1).trans rfl, (blk_cell BK440.out 2).trans rfl⟩ (fun hHeld => ?_)
             generalize wc.drew = w60 at HO_457002 BK440 BK450 BK456 BK460 HB hHeld ⊢
             refine zT 0 hHeld (N := some 43) (h := ?_)
             refine zT 1 hHeld (N := some 44) (h := ?_)
             refine one_ (i := 2) (N := some 45) #[true, true, true, false, false] rfl rfl (by kernel_rfl) (by decide) (fun K hK => ?_)
             refine goes_ Try.func14 (by kernel_rfl) rfl #[.agg #[.int .i64 a0_0, .int .i64 a0_1, .slice A0_2 l0_2.length c0_2]] (by rfl) rfl rfl zM ?_
             with_reducible refine (laws_toSeries.calls kj13 a0_0 a0_1 _ _ l0_2 t462 t463 t464 _ ?side1 ?side2 A57.out).mono ?_
             (case side1 => repeat (first | exact (Kd.C_below HR0_2.out HB.out) | (with_reducible refine Kd.C_alloc ?_ _) | (with_reducible refine Kd.C_drewN ?_ _) | (with_reducible refine Kd.C_drew ?_)))
             (case side2 => exact HC0_2.out)
             rintro e w61 ⟨v465, rfl, ho0, hb⟩
             refine ⟨_, rfl, ?_⟩
             have n0_ := Aside0.mk (Kd.R_elder' zR (Kd.R_base ho0) hb)
             have n1_ := Aside0.mk (Kd.R_lower (Kd.R_new' ho0 (Kd.R_lt zR)) (below_size zB))
             have n2_ := Aside0.mk (blk_below (g := gb440) (o := .cells #[.int .i64 a0_0, .int .i64 a0_1, .slice A0_2 l0_2.length c0_2] 24 (0, 0)) zK hb)
             have n3_ := Aside0.mk (blk_below (g := gb450) (o := .cells #[.int .i64 t447, .int .i64 t448] 27 (0, 0)) zK hb)
             have n4_ := Aside0.mk (blk_below (g := gb456) (o := .cells #[.int .i64 t451, .int .i64 t452, .slice Ao31 t453.length co31] 32 (0, 0)) zK hb)
             have n5_ := Aside0.mk (blk_below (g := gb460) (o := .cells #[.int .i64 t457, .int .i64 t458] 27 (0, 0)) zK hb)
             have n6_ := Aside0.mk (below_step zB hb)
             clear HO_457002
             clear BK440
             clear BK450
             clear BK456
             clear BK460
             clear HB
             have HO_457002 := n0_
             have HO466 := n1_
             have BK440 := n2_
             have BK450 := n3_
             have BK456 := n4_
             have BK460 := n5_
             have HB := n6_
             clear n0_ n1_ n2_ n3_ n4_ n5_ n6_
             (try clear hb)
             (try clear hb2)
             (try clear hk)
             (try clear hi)
             (try clear ho0)
             obtain ⟨Ao62, co62, eo62⟩ := Kd.R_slice HO466.out
             (first | subst eo62 | (injection eo62 with f1_ f2_ f3_; have f4_ := f1_.symm; have f5_ := f3_.symm; clear f1_ f2_ f3_; subst f4_; subst f5_))
             refine hK.out _ _ ⟨(blk_cell BK456.out 0).trans rfl, (blk_cell BK456.out 1).trans rfl, (blk_cell BK456.out 2).trans rfl, (blk_cell BK440.out 0).trans rfl, (blk_cell BK440.out 1).trans rfl, (blk_cell BK440.out 2).trans rfl⟩ (fun hHeld => ?_)
             clear hK K
             refine norm_ (a' := ?_) ?_ ?_
             rotate_left
             ·show Act.put _ (some 45) _ = _
              simp only [Act.put, List.setIfInBounds_toArray, List.set_cons_zero, List.set_cons_succ, i64_w, i32_w]
              rfl
             refine one_ (i := 3) (N := some 46) #[true, true, true, true, false] rfl rfl (by kernel_rfl) (by decide) (fun K hK => ?_)
             refine goes_ Try.func17 (by kernel_rfl) rfl #[.agg #[.int .i64 t451, .int .i64 t452, .slice Ao31 t453.length co31], .agg #[.int .i64 t462, .int .i64 t463, .slice Ao62 t464.length co62]] (by rfl) rfl rfl zM ?_
             with_reducible refine (laws_eqSeries.calls kj13 t451 t452 _ _ t453 t462 t463 _ _ t464 true _ ?side1 ?side2 ?side3 ?side4 A58.out).mono ?_
             (case side1 => repeat (first | exact (Kd.R_reads' HO_457002.out).2.2 | (with_reducible refine Kd.C_alloc ?_ _) | (with_reducible refine Kd.C_drewN ?_ _) | (with_reducible refine Kd.C_drew ?_)))
             (case side2 => exact (Kd.R_reads' HO_457002.out).2.1)
             (case side3 => repeat (first | exact (Kd.R_reads' HO466.out).2.2 | (with_reducible refine Kd.C_alloc ?_ _) | (with_reducible refine Kd.C_drewN ?_ _) | (with_reducible refine Kd.C_drew ?_)))
             (case side4 => exact (Kd.R_reads' HO466.out).2.1)
             rintro e w63 ⟨rfl, hb⟩
             refine ⟨_, rfl, ?_⟩
             have n0_ := Aside0.mk (Kd.R_below zR hb)
             have n1_ := Aside0.mk (Kd.R_below zR hb)
             have n2_ := Aside0.mk (blk_below (g := gb440) (o := .cells #[.int .i64 a0_0, .int .i64 a0_1, .slice A0_2 l0_2.length c0_2] 24 (0, 0)) zK hb)
             have n3_ := Aside0.mk (blk_below (g := gb450) (o := .cells #[.int .i64 t447, .int .i64 t448] 27 (0, 0)) zK hb)
             have n4_ := Aside0.mk (blk_below (g := gb456) (o := .cells #[.int .i64 t451, .int .i64 t452, .slice Ao31 t453.length co31] 32 (0, 0)) zK hb)
             have n5_ := Aside0.mk (blk_below (g := gb460) (o := .cells #[.int .i64 t457, .int .i64 t458] 27 (0, 0)) zK hb)
             have n6_ := Aside0.mk (below_step zB hb)
             clear HO_457002
             clear HO466
             clear BK440
             clear BK450
             clear BK456
             clear BK460
             clear HB
             have HO_457002 := n0_
             have HO466 := n1_
             have BK440 := n2_
             have BK450 := n3_
             have BK456 := n4_
             have BK460 := n5_
             have HB := n6_
             clear n0_ n1_ n2_ n3_ n4_ n5_ n6_
             (try clear hb)
             (try clear hb2)
             (try clear hk)
             (try clear hi)
             refine hK.out _ _ ⟨(blk_cell BK456.out 0).trans rfl, (blk_cell BK456.out 1).trans rfl, (blk_cell BK456.out 2).trans rfl, (blk_cell BK440.out 0).trans rfl, (blk_cell BK440.out 1).trans rfl, (blk_cell BK440.out 2).trans rfl⟩ (fun hHeld => ?_)
             clear hK K
             refine norm_ (a' := ?_) ?_ ?_
             rotate_left
             ·show Act.put _ (some 46) _ = _
              simp only [Act.put, List.setIfInBounds_toArray, List.set_cons_zero, List.set_cons_succ, i64_w, i32_w]
              rfl
             refine zP 4 (N := some 47) (h := ?_)
             refine done_ (by kernel_rfl) ?_
             try go_wp2
             go_ret
             exact ⟨by first | rfl | (simp [errW_none, errW_some] <;> rfl) | (simp [*, errW_none, errW_some] <;> rfl), zB⟩
            ·replace c59 := Bool.eq_false_iff.mpr c59
             subst c59
             have H1 : (some false) = some r := by rw [if_neg (show ¬ (false = true) by decide)] at H; exact H
             clear H
             have H := H1
             clear H1
             obtain rfl := Option.some.inj H
             try go_wp2
             have n0_ := Aside0.mk (Kd.R_drew HO_457002.out)
             have n1_ := Aside0.mk (blk_drew BK440.out)
             have n2_ := Aside0.mk (blk_drew BK450.out)
             have n3_ := Aside0.mk (blk_drew BK456.out)
             have n4_ := Aside0.mk (blk_drew BK460.out)
             have n5_ := Aside0.mk (below_drew1 HB.out)
             clear HO_457002
             clear BK440
             clear BK450
             clear BK456
             clear BK460
             clear HB
             have HO_457002 := n0_
             have BK440 := n1_
             have BK450 := n2_
             have BK456 := n3_
             have BK460 := n4_
             have HB := n5_
             clear n0_ n1_ n2_ n3_ n4_ n5_
             refine start_ (n := 5) (S := fun w' => w'.cell? ⟨gb456, 0, none⟩ = some (.int .i64 t451) ∧ w'.cell? ⟨gb456, 1, none⟩ = some (.int .i64 t452) ∧ w'.cell? ⟨gb456, 2, none⟩ = some (.slice Ao31 t453.length co31) ∧ w'.cell? ⟨gb440, 0, none⟩ = some (.int .i64 a0_0) ∧ w'.cell? ⟨gb440, 1, none⟩ = some (.int .i64 a0_1) ∧ w'.cell? ⟨gb440, 2, none⟩ = some (.slice A0_2 l0_2.length c0_2)) (ds := []) #[false, false, false, false, false] (by kernel_rfl) rfl rfl ⟨(blk_cell BK456.out 0).trans rfl, (blk_cell BK456.out 1).trans rfl, (blk_cell BK456.out 2).trans rfl, (blk_cell BK440.out 0).trans rfl, (blk_cell BK440.out 1).trans rfl, (blk_cell BK440.out 2).trans rfl⟩ (fun hHeld => ?_)
             generalize wc.drew = w64 at HO_457002 BK440 BK450 BK456 BK460 HB hHeld ⊢
             refine zT 0 hHeld (N := some 43) (h := ?_)
             refine zT 1 hHeld (N := some 44) (h := ?_)
             refine one_ (i := 2) (N := some 45) #[true, true, true, false, false] rfl rfl (by kernel_rfl) (by decide) (fun K hK => ?_)
             refine goes_ Try.func14 (by kernel_rfl) rfl #[.agg #[.int .i64 a0_0, .int .i64 a0_1, .slice A0_2 l0_2.length c0_2]] (by rfl) rfl rfl zM ?_
             with_reducible refine (laws_toSeries.calls kj13 a0_0 a0_1 _ _ l0_2 t462 t463 t464 _ ?side1 ?side2 A57.out).mono ?_
             (case side1 => repeat (first | exact (Kd.C_below HR0_2.out HB.out) | (with_reducible refine Kd.C_alloc ?_ _) | (with_reducible refine Kd.C_drewN ?_ _) | (with_reducible refine Kd.C_drew ?_)))
             (case side2 => exact HC0_2.out)
             rintro e w65 ⟨v465, rfl, ho0, hb⟩
             refine ⟨_, rfl, ?_⟩
             have n0_ := Aside0.mk (Kd.R_elder' zR (Kd.R_base ho0) hb)
             have n1_ := Aside0.mk (Kd.R_lower (Kd.R_new' ho0 (Kd.R_lt zR)) (below_size zB))
             have n2_ := Aside0.mk (blk_below (g := gb440) (o := .cells #[.int .i64 a0_0, .int .i64 a0_1, .slice A0_2 l0_2.length c0_2] 24 (0, 0)) zK hb)
             have n3_ := Aside0.mk (blk_below (g := gb450) (o := .cells #[.int .i64 t447, .int .i64 t448] 27 (0, 0)) zK hb)
             have n4_ := Aside0.mk (blk_below (g := gb456) (o := .cells #[.int .i64 t451, .int .i64 t452, .slice Ao31 t453.length co31] 32 (0, 0)) zK hb)
             have n5_ := Aside0.mk (blk_below (g := gb460) (o := .cells #[.int .i64 t457, .int .i64 t458] 27 (0, 0)) zK hb)
             have n6_ := Aside0.mk (below_step zB hb)
             clear HO_457002
             clear BK440
             clear BK450
             clear BK456
             clear BK460
             clear HB
             have HO_457002 := n0_
             have HO466 := n1_
             have BK440 := n2_
             have BK450 := n3_
             have BK456 := n4_
             have BK460 := n5_
             have HB := n6_
             clear n0_ n1_ n2_ n3_ n4_ n5_ n6_
             (try clear hb)
             (try clear hb2)
             (try clear hk)
             (try clear hi)
             (try clear ho0)
             obtain ⟨Ao66, co66, eo66⟩ := Kd.R_slice HO466.out
             (first | subst eo66 | (injection eo66 with f1_ f2_ f3_; have f4_ := f1_.symm; have f5_ := f3_.symm; clear f1_ f2_ f3_; subst f4_; subst f5_))
             refine hK.out _ _ ⟨(blk_cell BK456.out 0).trans rfl, (blk_cell BK456.out 1).trans rfl, (blk_cell BK456.out 2).trans rfl, (blk_cell BK440.out 0).trans rfl, (blk_cell BK440.out 1).trans rfl, (blk_cell BK440.out 2).trans rfl⟩ (fun hHeld => ?_)
             clear hK K
             refine norm_ (a' := ?_) ?_ ?_
             rotate_left
             ·show Act.put _ (some 45) _ = _
              simp only [Act.put, List.setIfInBounds_toArray, List.set_cons_zero, List.set_cons_succ, i64_w, i32_w]
              rfl
             refine one_ (i := 3) (N := some 46) #[true, true, true, true, false] rfl rfl (by kernel_rfl) (by decide) (fun K hK => ?_)
             refine goes_ Try.func17 (by kernel_rfl) rfl #[.agg #[.int .i64 t451, .int .i64 t452, .slice Ao31 t453.length co31], .agg #[.int .i64 t462, .int .i64 t463, .slice Ao66 t464.length co66]] (by rfl) rfl rfl zM ?_
             with_reducible refine (laws_eqSeries.calls kj13 t451 t452 _ _ t453 t462 t463 _ _ t464 false _ ?side1 ?side2 ?side3 ?side4 A58.out).mono ?_
             (case side1 => repeat (first | exact (Kd.R_reads' HO_457002.out).2.2 | (with_reducible refine Kd.C_alloc ?_ _) | (with_reducible refine Kd.C_drewN ?_ _) | (with_reducible refine Kd.C_drew ?_)))
             (case side2 => exact (Kd.R_reads' HO_457002.out).2.1)
             (case side3 => repeat (first | exact (Kd.R_reads' HO466.out).2.2 | (with_reducible refine Kd.C_alloc ?_ _) | (with_reducible refine Kd.C_drewN ?_ _) | (with_reducible refine Kd.C_drew ?_)))
             (case side4 => exact (Kd.R_reads' HO466.out).2.1)
             rintro e w67 ⟨rfl, hb⟩
             refine ⟨_, rfl, ?_⟩
             have n0_ := Aside0.mk (Kd.R_below zR hb)
             have n1_ := Aside0.mk (Kd.R_below zR hb)
             have n2_ := Aside0.mk (blk_below (g := gb440) (o := .cells #[.int .i64 a0_0, .int .i64 a0_1, .slice A0_2 l0_2.length c0_2] 24 (0, 0)) zK hb)
             have n3_ := Aside0.mk (blk_below (g := gb450) (o := .cells #[.int .i64 t447, .int .i64 t448] 27 (0, 0)) zK hb)
             have n4_ := Aside0.mk (blk_below (g := gb456) (o := .cells #[.int .i64 t451, .int .i64 t452, .slice Ao31 t453.length co31] 32 (0, 0)) zK hb)
             have n5_ := Aside0.mk (blk_below (g := gb460) (o := .cells #[.int .i64 t457, .int .i64 t458] 27 (0, 0)) zK hb)
             have n6_ := Aside0.mk (below_step zB hb)
             clear HO_457002
             clear HO466
             clear BK440
             clear BK450
             clear BK456
             clear BK460
             clear HB
             have HO_457002 := n0_
             have HO466 := n1_
             have BK440 := n2_
             have BK450 := n3_
             have BK456 := n4_
             have BK460 := n5_
             have HB := n6_
             clear n0_ n1_ n2_ n3_ n4_ n5_ n6_
             (try clear hb)
             (try clear hb2)
             (try clear hk)
             (try clear hi)
             refine hK.out _ _ ⟨(blk_cell BK456.out 0).trans rfl, (blk_cell BK456.out 1).trans rfl, (blk_cell BK456.out 2).trans rfl, (blk_cell BK440.out 0).trans rfl, (blk_cell BK440.out 1).trans rfl, (blk_cell BK440.out 2).trans rfl⟩ (fun hHeld => ?_)
             clear hK K
             refine norm_ (a' := ?_) ?_ ?_
             rotate_left
             ·show Act.put _ (some 46) _ = _
              simp only [Act.put, List.setIfInBounds_toArray, List.set_cons_zero, List.set_cons_succ, i64_w, i32_w]
              rfl
             refine zP 4 (N := some 47) (h := ?_)
             refine done_ (by kernel_rfl) ?_
             try go_wp2
             go_ret
             exact ⟨by first | rfl | (simp [errW_none, errW_some] <;> rfl) | (simp [*, errW_none, errW_some] <;> rfl), zB⟩

end Go.Proofs.Ytcklefgkbddlhaa.P
