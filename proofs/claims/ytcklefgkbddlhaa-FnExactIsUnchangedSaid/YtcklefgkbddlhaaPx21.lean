/- What a call of each Go function named below comes to is what the plain Lean function beside it says. Made by a program of this session out of the print of the translation; Lean checks it. -/
import Derived.Test.YtcklefgkbddlhaaPx0
import Derived.Test.YtcklefgkbddlhaaPx1
import Derived.Test.YtcklefgkbddlhaaPx2
import Derived.Test.YtcklefgkbddlhaaPx10
import Derived.Test.YtcklefgkbddlhaaPx11
import Derived.Test.YtcklefgkbddlhaaPx19
import Derived.Test.YtcklefgkbddlhaaPx20
namespace Go.Proofs.Ytcklefgkbddlhaa.P
open Go.RowKit Go.Proofs.YtcklefgkbddlhaaW.PrintWords Go.Proofs.YtcklefgkbddlhaaW.PrintLast Go.Proofs.YtcklefgkbddlhaaW.PrintMore
attribute [local go_sem] max2_int min2_int max_two min_two max_three min_three max_four min_four   -- for this text's walks alone
set_option linter.unusedVariables false
set_option linter.unusedSimpArgs false


/-! ### laws_FnExactIsUnchanged: function 10 -/
def laws_FnExactIsUnchanged.j0 : Nat → List (List Int) → List (List Int) → Bool → Int → Int → List (S124) → Int → Int → List (S89) → Option (Bool)
  | 0, _, _, _, _, _, _, _, _, _ => none
  | k + 1, x1, x9, x47, x482000, x482001, x482002, x500000, x500001, x500002 => if x47 = true then (some false) else ((laws_toSeries.f k x482000 x482001 x482002).bind fun bt505 => ((laws_eqSeries.f k x500000 x500001 x500002 bt505.1 bt505.2.1 bt505.2.2).bind fun t510 => (if t510 = true then ((laws_toInt64SS.f k x1).bind fun t511 => ((laws_eqInt64SS.f k x9 t511).bind fun t514 => (if t514 = true then (some true) else (some false)))) else (some false))))
def laws_FnExactIsUnchanged.f (k : Nat) (a0_0 : Int) (a0_1 : Int) (l0_2 : List (S124)) (l1 : List (List Int)) : Option (Bool) := (laws_szSeries.f k a0_0 a0_1 l0_2 1048576).bind fun t482 => (if t482 < 0 then (some true) else ((laws_szInt64SS.f k l1 t482).bind fun t483 => (if t483 < 0 then (some true) else ((laws_toSeries.f k a0_0 a0_1 l0_2).bind fun bt484 => ((laws_toInt64SS.f k l1).bind fun t489 => ((spec_IsUnchanged.f k bt484.1 bt484.2.1 bt484.2.2 t489).bind fun bt492 => ((laws_toSeries.f k a0_0 a0_1 l0_2).bind fun bt494 => ((laws_toInt64SS.f k l1).bind fun t500 => ((impl_IsUnchanged.f k bt494.1 bt494.2.1 bt494.2.2 t500).bind fun bt503 => (if (bt503.1 != bt492.1) = true then (laws_FnExactIsUnchanged.j0 k l1 t500 true a0_0 a0_1 l0_2 bt494.1 bt494.2.1 bt494.2.2) else (laws_FnExactIsUnchanged.j0 k l1 t500 (bt503.2 != bt492.2) a0_0 a0_1 l0_2 bt494.1 bt494.2.1 bt494.2.2)))))))))))
theorem laws_FnExactIsUnchanged.mono_l : ∀ k, (∀ y0 y1 y2 y3 y4 y5 y6 y7 y8, LeO (laws_FnExactIsUnchanged.j0 k y0 y1 y2 y3 y4 y5 y6 y7 y8) (laws_FnExactIsUnchanged.j0 (k + 1) y0 y1 y2 y3 y4 y5 y6 y7 y8))
  | 0 => fun _ _ _ _ _ _ _ _ _ r h => by simp [laws_FnExactIsUnchanged.j0] at h
  | k + 1 => by
    have ih0 := laws_FnExactIsUnchanged.mono_l k
    · intro y0 y1 y2 y3 y4 y5 y6 y7 y8
      unfold laws_FnExactIsUnchanged.j0
      repeat' first
      | (with_reducible exact ih0 _ _ _ _ _ _ _ _ _)
      | (with_reducible exact impl_IsUnchanged.mono _ _ _ _ _)
      | (with_reducible exact laws_eqInt64SS.mono _ _ _)
      | (with_reducible exact laws_eqSeries.mono _ _ _ _ _ _ _)
      | (with_reducible exact laws_szInt64SS.mono _ _ _)
      | (with_reducible exact laws_szSeries.mono _ _ _ _ _)
      | (with_reducible exact laws_toInt64SS.mono _ _)
      | (with_reducible exact laws_toSeries.mono _ _ _ _)
      | (with_reducible exact spec_IsUnchanged.mono _ _ _ _ _)
      | (with_reducible exact LeO.refl _)
      | (with_reducible exact LeO.none _)
      | (with_reducible refine LeO.ite ?_ ?_)
      | (with_reducible refine LeO.bind ?_ (fun _ => ?_))
theorem laws_FnExactIsUnchanged.mono : ∀ a0 a1 a2 a3 k, LeO (laws_FnExactIsUnchanged.f k a0 a1 a2 a3) (laws_FnExactIsUnchanged.f (k + 1) a0 a1 a2 a3) := by
  intro a0 a1 a2 a3 k
  have ih0 := laws_FnExactIsUnchanged.mono_l k
  unfold laws_FnExactIsUnchanged.f
  repeat' first
      | (with_reducible exact ih0 _ _ _ _ _ _ _ _ _)
      | (with_reducible exact impl_IsUnchanged.mono _ _ _ _ _)
      | (with_reducible exact laws_eqInt64SS.mono _ _ _)
      | (with_reducible exact laws_eqSeries.mono _ _ _ _ _ _ _)
      | (with_reducible exact laws_szInt64SS.mono _ _ _)
      | (with_reducible exact laws_szSeries.mono _ _ _ _ _)
      | (with_reducible exact laws_toInt64SS.mono _ _)
      | (with_reducible exact laws_toSeries.mono _ _ _ _)
      | (with_reducible exact spec_IsUnchanged.mono _ _ _ _ _)
      | (with_reducible exact LeO.refl _)
      | (with_reducible exact LeO.none _)
      | (with_reducible refine LeO.ite ?_ ?_)
      | (with_reducible refine LeO.bind ?_ (fun _ => ?_))
set_option maxHeartbeats 8000000 in
set_option maxRecDepth 100000 in
theorem laws_FnExactIsUnchanged.calls (k : Nat) (a0_0 : Int) (a0_1 : Int) (A0_2 : Option Addr) (c0_2 : Nat) (l0_2 : List (S124)) (A1 : Option Addr) (c1 : Nat) (l1 : List (List Int)) (r : Bool) (w : World) (hr0_2 : Kd.C k124 w A0_2 l0_2.length l0_2) (hc0_2 : l0_2.length ≤ c0_2) (hr1 : Kd.C (Kd.slice 2 (Kd.int .i64)) w A1 l1.length l1) (hc1 : l1.length ≤ c1) (h : laws_FnExactIsUnchanged.f k a0_0 a0_1 l0_2 l1 = some r) :
    Calls Try.prog 10 #[.agg #[.int .i64 a0_0, .int .i64 a0_1, .slice A0_2 l0_2.length c0_2], .slice A1 l1.length c1] w fun e w' => e = .returned (.bool r) ∧ Below w.heap.size w w' := by
  have hu24 := Try.underlying24
  have hu32 := Try.underlying32
  have HR0_2 := Aside0.mk hr0_2
  have HC0_2 := Aside0.mk hc0_2
  clear hr0_2 hc0_2
  have HR1 := Aside0.mk hr1
  have HC1 := Aside0.mk hc1
  clear hr1 hc1
  have HB := Aside0.mk (Below.refl w.heap.size w)
  have H : ((laws_szSeries.f k a0_0 a0_1 l0_2 1048576).bind fun t482 => (if t482 < 0 then (some true) else ((laws_szInt64SS.f k l1 t482).bind fun t483 => (if t483 < 0 then (some true) else ((laws_toSeries.f k a0_0 a0_1 l0_2).bind fun bt484 => ((laws_toInt64SS.f k l1).bind fun t489 => ((spec_IsUnchanged.f k bt484.1 bt484.2.1 bt484.2.2 t489).bind fun bt492 => ((laws_toSeries.f k a0_0 a0_1 l0_2).bind fun bt494 => ((laws_toInt64SS.f k l1).bind fun t500 => ((impl_IsUnchanged.f k bt494.1 bt494.2.1 bt494.2.2 t500).bind fun bt503 => (if (bt503.1 != bt492.1) = true then (laws_FnExactIsUnchanged.j0 k l1 t500 true a0_0 a0_1 l0_2 bt494.1 bt494.2.1 bt494.2.2) else (laws_FnExactIsUnchanged.j0 k l1 t500 (bt503.2 != bt492.2) a0_0 a0_1 l0_2 bt494.1 bt494.2.1 bt494.2.2)))))))))))) = some r := h
  clear h
  replace H := Option.bind_eq_some_iff.mp H
  obtain ⟨t482, A30, H⟩ := H
  replace H : (if t482 < 0 then (some true) else ((laws_szInt64SS.f k l1 t482).bind fun t483 => (if t483 < 0 then (some true) else ((laws_toSeries.f k a0_0 a0_1 l0_2).bind fun bt484 => ((laws_toInt64SS.f k l1).bind fun t489 => ((spec_IsUnchanged.f k bt484.1 bt484.2.1 bt484.2.2 t489).bind fun bt492 => ((laws_toSeries.f k a0_0 a0_1 l0_2).bind fun bt494 => ((laws_toInt64SS.f k l1).bind fun t500 => ((impl_IsUnchanged.f k bt494.1 bt494.2.1 bt494.2.2 t500).bind fun bt503 => (if (bt503.1 != bt492.1) = true then (laws_FnExactIsUnchanged.j0 k l1 t500 true a0_0 a0_1 l0_2 bt494.1 bt494.2.1 bt494.2.2) else (laws_FnExactIsUnchanged.j0 k l1 t500 (bt503.2 != bt492.2) a0_0 a0_1 l0_2 bt494.1 bt494.2.1 bt494.2.2))))))))))) = some r := H
  have A3 := Aside0.mk A30
  clear A30
  by_cases c4 : t482 < 0
  · rw [if_pos c4] at H
    have c4b0 : decide (t482 < 0) = true := decide_eq_true c4
    clear c4
    obtain rfl := Option.some.inj H
    go_enter Try.func10, Try.ntmps10
    go_wp2_with (first | ((with_reducible refine gate_dst (N := 2) rfl ?_); refine zX 2 (#[.int .i64 a0_0, .int .i64 a0_1, .slice A0_2 l0_2.length c0_2]) 24 ?_; intro gb481 hg w5 hbox hb; have BK481 := Aside0.mk (hbox); have GW481 := Aside0.mk (zG : w.heap.size ≤ gb481); have GE481 := Aside0.mk (zG : w.heap.size ≤ gb481); replace HB := Aside0.mk (below_step zB hb); clear hb hbox hg; obtain ⟨hcz6_0, hcz6_1, hcz6_2, hfz6_0, hfz6_1, hfz6_2⟩ := zC3 BK481) | ((with_reducible refine gate_callee (f := 12) rfl ?_); refine goesL_ (some 14) rfl rfl Try.func12 (by kernel_rfl) rfl #[.agg #[.int .i64 a0_0, .int .i64 a0_1, .slice A0_2 l0_2.length c0_2], .int .i64 1048576] rfl zM ?_; (with_reducible refine (laws_szSeries.calls k a0_0 a0_1 _ _ l0_2 1048576 t482 _ ?side1 ?side2 A3.out).mono ?_); (case side1 => repeat (first | exact (Kd.C_below HR0_2.out HB.out) | (with_reducible refine Kd.C_alloc ?_ _) | (with_reducible refine Kd.C_drewN ?_ _) | (with_reducible refine Kd.C_drew ?_))); (case side2 => exact HC0_2.out); rintro e w7 ⟨rfl, hb⟩; refine ⟨_, rfl, ?_⟩; replace BK481 := Aside0.mk (zW BK481 hb); replace HB := Aside0.mk (below_step zB hb); (try clear hb); (try clear hb2); (try clear hk); (try clear hi)))
    go_ret
    exact ⟨by first | rfl | (simp [errW_none, errW_some] <;> rfl) | (simp [*, errW_none, errW_some] <;> rfl), zB⟩
  · rw [if_neg c4] at H
    have c4b0 : decide (t482 < 0) = false := decide_eq_false c4
    clear c4
    replace H := Option.bind_eq_some_iff.mp H
    obtain ⟨t483, A80, H⟩ := H
    replace H : (if t483 < 0 then (some true) else ((laws_toSeries.f k a0_0 a0_1 l0_2).bind fun bt484 => ((laws_toInt64SS.f k l1).bind fun t489 => ((spec_IsUnchanged.f k bt484.1 bt484.2.1 bt484.2.2 t489).bind fun bt492 => ((laws_toSeries.f k a0_0 a0_1 l0_2).bind fun bt494 => ((laws_toInt64SS.f k l1).bind fun t500 => ((impl_IsUnchanged.f k bt494.1 bt494.2.1 bt494.2.2 t500).bind fun bt503 => (if (bt503.1 != bt492.1) = true then (laws_FnExactIsUnchanged.j0 k l1 t500 true a0_0 a0_1 l0_2 bt494.1 bt494.2.1 bt494.2.2) else (laws_FnExactIsUnchanged.j0 k l1 t500 (bt503.2 != bt492.2) a0_0 a0_1 l0_2 bt494.1 bt494.2.1 bt494.2.2))))))))) = some r := H
    have A8 := Aside0.mk A80
    clear A80
    by_cases c9 : t483 < 0
    · rw [if_pos c9] at H
      have c9b0 : decide (t483 < 0) = true := decide_eq_true c9
      clear c9
      obtain rfl := Option.some.inj H
      go_enter Try.func10, Try.ntmps10
      go_wp2_with (first | ((with_reducible refine gate_dst (N := 2) rfl ?_); refine zX 2 (#[.int .i64 a0_0, .int .i64 a0_1, .slice A0_2 l0_2.length c0_2]) 24 ?_; intro gb481 hg w10 hbox hb; have BK481 := Aside0.mk (hbox); have GW481 := Aside0.mk (zG : w.heap.size ≤ gb481); have GE481 := Aside0.mk (zG : w.heap.size ≤ gb481); replace HB := Aside0.mk (below_step zB hb); clear hb hbox hg; obtain ⟨hcz11_0, hcz11_1, hcz11_2, hfz11_0, hfz11_1, hfz11_2⟩ := zC3 BK481) | ((with_reducible refine gate_callee (f := 12) rfl ?_); refine goesL_ (some 14) rfl rfl Try.func12 (by kernel_rfl) rfl #[.agg #[.int .i64 a0_0, .int .i64 a0_1, .slice A0_2 l0_2.length c0_2], .int .i64 1048576] rfl zM ?_; (with_reducible refine (laws_szSeries.calls k a0_0 a0_1 _ _ l0_2 1048576 t482 _ ?side1 ?side2 A3.out).mono ?_); (case side1 => repeat (first | exact (Kd.C_below HR0_2.out HB.out) | (with_reducible refine Kd.C_alloc ?_ _) | (with_reducible refine Kd.C_drewN ?_ _) | (with_reducible refine Kd.C_drew ?_))); (case side2 => exact HC0_2.out); rintro e w12 ⟨rfl, hb⟩; refine ⟨_, rfl, ?_⟩; replace BK481 := Aside0.mk (zW BK481 hb); replace HB := Aside0.mk (below_step zB hb); (try clear hb); (try clear hb2); (try clear hk); (try clear hi)) | ((with_reducible refine gate_callee (f := 43) rfl ?_); refine goesL_ (some 19) rfl rfl Try.func43 (by kernel_rfl) rfl #[.slice A1 l1.length c1, .int .i64 t482] rfl zM ?_; (with_reducible refine (laws_szInt64SS.calls k _ _ l1 t482 t483 _ ?side1 ?side2 A8.out).mono ?_); (case side1 => repeat (first | exact (Kd.C_below HR1.out HB.out) | (with_reducible refine Kd.C_alloc ?_ _) | (with_reducible refine Kd.C_drewN ?_ _) | (with_reducible refine Kd.C_drew ?_))); (case side2 => exact HC1.out); rintro e w' ⟨rfl, ⟨nd, rfl⟩⟩; refine ⟨_, rfl, ?_⟩))
      go_ret
      exact ⟨by first | rfl | (simp [errW_none, errW_some] <;> rfl) | (simp [*, errW_none, errW_some] <;> rfl), zB⟩
    · rw [if_neg c9] at H
      have c9b0 : decide (t483 < 0) = false := decide_eq_false c9
      clear c9
      replace H := Option.bind_eq_some_iff.mp H
      obtain ⟨⟨t484, t485, t486⟩, A130, H⟩ := H
      replace H : ((laws_toInt64SS.f k l1).bind fun t489 => ((spec_IsUnchanged.f k t484 t485 t486 t489).bind fun bt492 => ((laws_toSeries.f k a0_0 a0_1 l0_2).bind fun bt494 => ((laws_toInt64SS.f k l1).bind fun t500 => ((impl_IsUnchanged.f k bt494.1 bt494.2.1 bt494.2.2 t500).bind fun bt503 => (if (bt503.1 != bt492.1) = true then (laws_FnExactIsUnchanged.j0 k l1 t500 true a0_0 a0_1 l0_2 bt494.1 bt494.2.1 bt494.2.2) else (laws_FnExactIsUnchanged.j0 k l1 t500 (bt503.2 != bt492.2) a0_0 a0_1 l0_2 bt494.1 bt494.2.1 bt494.2.2))))))) = some r := H
      have A13 := Aside0.mk A130
      clear A130
      replace H := Option.bind_eq_some_iff.mp H
      obtain ⟨t489, A140, H⟩ := H
      replace H : ((spec_IsUnchanged.f k t484 t485 t486 t489).bind fun bt492 => ((laws_toSeries.f k a0_0 a0_1 l0_2).bind fun bt494 => ((laws_toInt64SS.f k l1).bind fun t500 => ((impl_IsUnchanged.f k bt494.1 bt494.2.1 bt494.2.2 t500).bind fun bt503 => (if (bt503.1 != bt492.1) = true then (laws_FnExactIsUnchanged.j0 k l1 t500 true a0_0 a0_1 l0_2 bt494.1 bt494.2.1 bt494.2.2) else (laws_FnExactIsUnchanged.j0 k l1 t500 (bt503.2 != bt492.2) a0_0 a0_1 l0_2 bt494.1 bt494.2.1 bt494.2.2)))))) = some r := H
      have A14 := Aside0.mk A140
      clear A140
      replace H := Option.bind_eq_some_iff.mp H
      obtain ⟨⟨t492, t493⟩, A150, H⟩ := H
      replace H : ((laws_toSeries.f k a0_0 a0_1 l0_2).bind fun bt494 => ((laws_toInt64SS.f k l1).bind fun t500 => ((impl_IsUnchanged.f k bt494.1 bt494.2.1 bt494.2.2 t500).bind fun bt503 => (if (bt503.1 != t492) = true then (laws_FnExactIsUnchanged.j0 k l1 t500 true a0_0 a0_1 l0_2 bt494.1 bt494.2.1 bt494.2.2) else (laws_FnExactIsUnchanged.j0 k l1 t500 (bt503.2 != t493) a0_0 a0_1 l0_2 bt494.1 bt494.2.1 bt494.2.2))))) = some r := H
      have A15 := Aside0.mk A150
      clear A150
      replace H := Option.bind_eq_some_iff.mp H
      obtain ⟨⟨t494, t495, t496⟩, A160, H⟩ := H
      replace H : ((laws_toInt64SS.f k l1).bind fun t500 => ((impl_IsUnchanged.f k t494 t495 t496 t500).bind fun bt503 => (if (bt503.1 != t492) = true then (laws_FnExactIsUnchanged.j0 k l1 t500 true a0_0 a0_1 l0_2 t494 t495 t496) else (laws_FnExactIsUnchanged.j0 k l1 t500 (bt503.2 != t493) a0_0 a0_1 l0_2 t494 t495 t496)))) = some r := H
      have A16 := Aside0.mk A160
      clear A160
      replace H := Option.bind_eq_some_iff.mp H
      obtain ⟨t500, A170, H⟩ := H
      replace H : ((impl_IsUnchanged.f k t494 t495 t496 t500).bind fun bt503 => (if (bt503.1 != t492) = true then (laws_FnExactIsUnchanged.j0 k l1 t500 true a0_0 a0_1 l0_2 t494 t495 t496) else (laws_FnExactIsUnchanged.j0 k l1 t500 (bt503.2 != t493) a0_0 a0_1 l0_2 t494 t495 t496))) = some r := H
      have A17 := Aside0.mk A170
      clear A170
      replace H := Option.bind_eq_some_iff.mp H
      obtain ⟨⟨t503, t504⟩, A180, H⟩ := H
      replace H : (if (t503 != t492) = true then (laws_FnExactIsUnchanged.j0 k l1 t500 true a0_0 a0_1 l0_2 t494 t495 t496) else (laws_FnExactIsUnchanged.j0 k l1 t500 (t504 != t493) a0_0 a0_1 l0_2 t494 t495 t496)) = some r := H
      have A18 := Aside0.mk A180
      clear A180
      have HC19 := Aside0.mk H
      clear H
      go_enter Try.func10, Try.ntmps10
      go_upto_region 12 with (first | ((with_reducible refine gate_dst (N := 2) rfl ?_); refine box_event ?hg (N := 2) ?hd (cs := #[.int .i64 a0_0, .int .i64 a0_1, .slice A0_2 l0_2.length c0_2]) (t := 24) ?hr ?_; (case hd => rfl); (case hg => rfl); (case hr => first | (go_simp; done) | (go_simp; rfl)); intro gb481 hg w20 hbox hb; have n0_ := Aside0.mk (below_step zB hb); have n1_ := Aside0.mk (hbox); have n2_ := Aside0.mk (zG : w.heap.size ≤ gb481); have n3_ := Aside0.mk (zG : w.heap.size ≤ gb481); clear HB; have HB := n0_; have BK481 := n1_; have GW481 := n2_; have GE481 := n3_; clear n0_ n1_ n2_ n3_; clear hb hbox hg; have hcz21_0 : w20.cell? ⟨gb481, 0, none⟩ = some (.int .i64 a0_0) := zE BK481; have hcz21_1 : w20.cell? ⟨gb481, 1, none⟩ = some (.int .i64 a0_1) := zE BK481; have hcz21_2 : w20.cell? ⟨gb481, 2, none⟩ = some (.slice A0_2 l0_2.length c0_2) := zE BK481; have hfz21_0 := blk_frozen BK481.out 0; have hfz21_1 := blk_frozen BK481.out 1; have hfz21_2 := blk_frozen BK481.out 2) | ((with_reducible refine gate_callee (f := 12) rfl ?_); refine goesL_ (some 14) rfl rfl Try.func12 (by kernel_rfl) rfl #[.agg #[.int .i64 a0_0, .int .i64 a0_1, .slice A0_2 l0_2.length c0_2], .int .i64 1048576] rfl zM ?_; (with_reducible refine (laws_szSeries.calls k a0_0 a0_1 _ _ l0_2 1048576 t482 _ ?side1 ?side2 A3.out).mono ?_); (case side1 => repeat (first | exact (Kd.C_below HR0_2.out HB.out) | (with_reducible refine Kd.C_alloc ?_ _) | (with_reducible refine Kd.C_drewN ?_ _) | (with_reducible refine Kd.C_drew ?_))); (case side2 => exact HC0_2.out); rintro e w22 ⟨rfl, hb⟩; refine ⟨_, rfl, ?_⟩; have n0_ := Aside0.mk (blk_below (g := gb481) (o := .cells #[.int .i64 a0_0, .int .i64 a0_1, .slice A0_2 l0_2.length c0_2] 24 (0, 0)) zK hb); have n1_ := Aside0.mk (below_step zB hb); clear BK481; clear HB; have BK481 := n0_; have HB := n1_; clear n0_ n1_; (try clear hb); (try clear hb2); (try clear hk); (try clear hi)) | ((with_reducible refine gate_callee (f := 43) rfl ?_); refine goesL_ (some 19) rfl rfl Try.func43 (by kernel_rfl) rfl #[.slice A1 l1.length c1, .int .i64 t482] rfl zM ?_; (with_reducible refine (laws_szInt64SS.calls k _ _ l1 t482 t483 _ ?side1 ?side2 A8.out).mono ?_); (case side1 => repeat (first | exact (Kd.C_below HR1.out HB.out) | (with_reducible refine Kd.C_alloc ?_ _) | (with_reducible refine Kd.C_drewN ?_ _) | (with_reducible refine Kd.C_drew ?_))); (case side2 => exact HC1.out); rintro e w' ⟨rfl, ⟨nd, rfl⟩⟩; refine ⟨_, rfl, ?_⟩; (try (rw [drewN_self w22]; generalize hq_ : World.drewN w22 _ = w22; have n0_ : Aside0 (w22.heap[gb481]? = some (.cells #[.int .i64 a0_0, .int .i64 a0_1, .slice A0_2 l0_2.length c0_2] 24 (0, 0))) := ⟨by rw [← hq_]; exact zK⟩; have n1_ : Aside0 (Below w.heap.size w w22) := ⟨by rw [← hq_]; exact zB⟩; clear BK481 HB hq_; have BK481 := n0_; have HB := n1_; clear n0_ n1_)); have hcz23_0 : w22.cell? ⟨gb481, 0, none⟩ = some (.int .i64 a0_0) := zE BK481; have hcz23_1 : w22.cell? ⟨gb481, 1, none⟩ = some (.int .i64 a0_1) := zE BK481; have hcz23_2 : w22.cell? ⟨gb481, 2, none⟩ = some (.slice A0_2 l0_2.length c0_2) := zE BK481; have hfz23_0 := blk_frozen BK481.out 0; have hfz23_1 := blk_frozen BK481.out 1; have hfz23_2 := blk_frozen BK481.out 2) | ((with_reducible refine gate_callee (f := 14) rfl ?_); refine goesL_ (some 24) rfl rfl Try.func14 (by kernel_rfl) rfl #[.agg #[.int .i64 a0_0, .int .i64 a0_1, .slice A0_2 l0_2.length c0_2]] rfl zM ?_; (with_reducible refine (laws_toSeries.calls k a0_0 a0_1 _ _ l0_2 t484 t485 t486 _ ?side1 ?side2 A13.out).mono ?_); (case side1 => repeat (first | exact (Kd.C_below HR0_2.out HB.out) | (with_reducible refine Kd.C_alloc ?_ _) | (with_reducible refine Kd.C_drewN ?_ _) | (with_reducible refine Kd.C_drew ?_))); (case side2 => exact HC0_2.out); rintro e w24 ⟨v487, rfl, ho0, hb⟩; refine ⟨_, rfl, ?_⟩; have n0_ := Aside0.mk (Kd.R_lower ho0 (below_size zB)); have n1_ := Aside0.mk (blk_below (g := gb481) (o := .cells #[.int .i64 a0_0, .int .i64 a0_1, .slice A0_2 l0_2.length c0_2] 24 (0, 0)) zK hb); have n2_ := Aside0.mk (below_step zB hb); clear BK481; clear HB; have HO488 := n0_; have BK481 := n1_; have HB := n2_; clear n0_ n1_ n2_; (try clear hb); (try clear hb2); (try clear hk); (try clear hi); (try clear ho0)) | ((with_reducible refine gate_callee (f := 45) rfl ?_); refine goesL_ (some 26) rfl rfl Try.func45 (by kernel_rfl) rfl #[.slice A1 l1.length c1] rfl zM ?_; (with_reducible refine (laws_toInt64SS.calls k _ _ l1 t489 _ ?side1 ?side2 A14.out).mono ?_); (case side1 => repeat (first | exact (Kd.C_below HR1.out HB.out) | (with_reducible refine Kd.C_alloc ?_ _) | (with_reducible refine Kd.C_drewN ?_ _) | (with_reducible refine Kd.C_drew ?_))); (case side2 => exact HC1.out); rintro e w25 ⟨v490, rfl, ho0, hb⟩; refine ⟨_, rfl, ?_⟩; have n0_ := Aside0.mk (Kd.R_below (by (with_reducible repeat (first | apply Kd.R_alloc | apply Kd.R_drewN | apply Kd.R_drew)); exact HO488.out) hb); have n1_ := Aside0.mk (Kd.S_lower ho0 (below_size zB)); have n2_ := Aside0.mk (blk_below (g := gb481) (o := .cells #[.int .i64 a0_0, .int .i64 a0_1, .slice A0_2 l0_2.length c0_2] 24 (0, 0)) zK hb); have n3_ := Aside0.mk (below_step zB hb); clear HO488; clear BK481; clear HB; have HO488 := n0_; have HO491 := n1_; have BK481 := n2_; have HB := n3_; clear n0_ n1_ n2_ n3_; (try clear hb); (try clear hb2); (try clear hk); (try clear hi); (try clear ho0); obtain ⟨Ao26, co26, eo26⟩ := Kd.R_slice HO488.out; subst eo26; obtain ⟨Ao27, co27, eo27⟩ := Kd.S_slice HO491.out; subst eo27) | ((with_reducible refine gate_callee (f := 44) rfl ?_); refine goesL_ (some 27) rfl rfl Try.func44 (by kernel_rfl) rfl #[.agg #[.int .i64 t484, .int .i64 t485, .slice Ao26 t486.length co26], .slice Ao27 t489.length co27] rfl zM ?_; (with_reducible refine (spec_IsUnchanged.calls k t484 t485 _ _ t486 _ _ t489 t492 t493 _ ?side1 ?side2 ?side3 ?side4 A15.out).mono ?_); (case side1 => repeat (first | exact (Kd.R_reads' HO488.out).2.2 | (with_reducible refine Kd.C_alloc ?_ _) | (with_reducible refine Kd.C_drewN ?_ _) | (with_reducible refine Kd.C_drew ?_))); (case side2 => exact (Kd.R_reads' HO488.out).2.1); (case side3 => repeat (first | exact (Kd.S_reads' HO491.out).2.2 | (with_reducible refine Kd.C_alloc ?_ _) | (with_reducible refine Kd.C_drewN ?_ _) | (with_reducible refine Kd.C_drew ?_))); (case side4 => exact (Kd.S_reads' HO491.out).2.1); rintro e w28 ⟨rfl, hb⟩; refine ⟨_, rfl, ?_⟩; have n0_ := Aside0.mk (Kd.R_below (by (with_reducible repeat (first | apply Kd.R_alloc | apply Kd.R_drewN | apply Kd.R_drew)); exact HO488.out) hb); have n1_ := Aside0.mk (Kd.S_below (by (with_reducible repeat (first | apply Kd.S_alloc | apply Kd.S_drewN | apply Kd.S_drew)); exact HO491.out) hb); have n2_ := Aside0.mk (blk_below (g := gb481) (o := .cells #[.int .i64 a0_0, .int .i64 a0_1, .slice A0_2 l0_2.length c0_2] 24 (0, 0)) zK hb); have n3_ := Aside0.mk (below_step zB hb); clear HO488; clear HO491; clear BK481; clear HB; have HO488 := n0_; have HO491 := n1_; have BK481 := n2_; have HB := n3_; clear n0_ n1_ n2_ n3_; (try clear hb); (try clear hb2); (try clear hk); (try clear hi); have hcz29_0 : w28.cell? ⟨gb481, 0, none⟩ = some (.int .i64 a0_0) := zE BK481; have hcz29_1 : w28.cell? ⟨gb481, 1, none⟩ = some (.int .i64 a0_1) := zE BK481; have hcz29_2 : w28.cell? ⟨gb481, 2, none⟩ = some (.slice A0_2 l0_2.length c0_2) := zE BK481; have hfz29_0 := blk_frozen BK481.out 0; have hfz29_1 := blk_frozen BK481.out 1; have hfz29_2 := blk_frozen BK481.out 2) | ((with_reducible refine gate_callee (f := 14) rfl ?_); refine goesL_ (some 31) rfl rfl Try.func14 (by kernel_rfl) rfl #[.agg #[.int .i64 a0_0, .int .i64 a0_1, .slice A0_2 l0_2.length c0_2]] rfl zM ?_; (with_reducible refine (laws_toSeries.calls k a0_0 a0_1 _ _ l0_2 t494 t495 t496 _ ?side1 ?side2 A16.out).mono ?_); (case side1 => repeat (first | exact (Kd.C_below HR0_2.out HB.out) | (with_reducible refine Kd.C_alloc ?_ _) | (with_reducible refine Kd.C_drewN ?_ _) | (with_reducible refine Kd.C_drew ?_))); (case side2 => exact HC0_2.out); rintro e w30 ⟨v497, rfl, ho0, hb⟩; refine ⟨_, rfl, ?_⟩; have n0_ := Aside0.mk (Kd.R_elder' zR (Kd.R_base ho0) hb); have n1_ := Aside0.mk (Kd.S_below (by (with_reducible repeat (first | apply Kd.S_alloc | apply Kd.S_drewN | apply Kd.S_drew)); exact HO491.out) hb); have n2_ := Aside0.mk (Kd.R_lower (Kd.R_new' ho0 (Kd.R_lt (by (with_reducible repeat (first | apply Kd.R_alloc | apply Kd.R_drewN | apply Kd.R_drew)); exact HO488.out))) (below_size zB)); have n3_ := Aside0.mk (blk_below (g := gb481) (o := .cells #[.int .i64 a0_0, .int .i64 a0_1, .slice A0_2 l0_2.length c0_2] 24 (0, 0)) zK hb); have n4_ := Aside0.mk (below_step zB hb); clear HO488; clear HO491; clear BK481; clear HB; have HO488 := n0_; have HO491 := n1_; have HO498 := n2_; have BK481 := n3_; have HB := n4_; clear n0_ n1_ n2_ n3_ n4_; (try clear hb); (try clear hb2); (try clear hk); (try clear hi); (try clear ho0)) | ((with_reducible refine gate_dst (N := 8) rfl ?_); refine box_event ?hg (N := 8) ?hd (cs := #[.int .i64 0, .int .i64 0, .slice none 0 0]) (t := 32) ?hr ?_; (case hd => rfl); (case hg => rfl); (case hr => first | (go_simp; done) | (go_simp; rfl)); intro gb499 hg w31 hbox hb; have n0_ := Aside0.mk (Kd.R_below (by (with_reducible repeat (first | apply Kd.R_alloc | apply Kd.R_drewN | apply Kd.R_drew)); exact HO488.out) hb); have n1_ := Aside0.mk (Kd.S_below (by (with_reducible repeat (first | apply Kd.S_alloc | apply Kd.S_drewN | apply Kd.S_drew)); exact HO491.out) hb); have n2_ := Aside0.mk (Kd.R_below (by (with_reducible repeat (first | apply Kd.R_alloc | apply Kd.R_drewN | apply Kd.R_drew)); exact HO498.out) hb); have n3_ := Aside0.mk (blk_below (g := gb481) (o := .cells #[.int .i64 a0_0, .int .i64 a0_1, .slice A0_2 l0_2.length c0_2] 24 (0, 0)) zK hb); have n4_ := Aside0.mk (below_step zB hb); have n5_ := Aside0.mk (hbox); have n6_ := Aside0.mk (zG : w.heap.size ≤ gb499); have n7_ := Aside0.mk (zG : w.heap.size ≤ gb499); have n8_ := Aside0.mk ((by rw [hg]; exact Nat.ne_of_lt (blk_lt (g := gb481) (o := .cells #[.int .i64 a0_0, .int .i64 a0_1, .slice A0_2 l0_2.length c0_2] 24 (0, 0)) zK) : gb481 ≠ gb499)); have n9_ := Aside0.mk ((by rw [hg]; exact Nat.ne_of_gt (blk_lt (g := gb481) (o := .cells #[.int .i64 a0_0, .int .i64 a0_1, .slice A0_2 l0_2.length c0_2] 24 (0, 0)) zK) : gb499 ≠ gb481)); clear HO488; clear HO491; clear HO498; clear BK481; clear HB; have HO488 := n0_; have HO491 := n1_; have HO498 := n2_; have BK481 := n3_; have HB := n4_; have BK499 := n5_; have GW499 := n6_; have GE499 := n7_; have NB481_499 := n8_; have NB499_481 := n9_; clear n0_ n1_ n2_ n3_ n4_ n5_ n6_ n7_ n8_ n9_; clear hb hbox hg; have hnb32 := NB499_481.out; have hnc32 := NB481_499.out; have hcz33_0 : w31.cell? ⟨gb499, 0, none⟩ = some (.int .i64 0) := zE BK499; have hcz33_1 : w31.cell? ⟨gb499, 1, none⟩ = some (.int .i64 0) := zE BK499; have hcz33_2 : w31.cell? ⟨gb499, 2, none⟩ = some (.slice none 0 0) := zE BK499; have hfz33_0 := blk_frozen BK499.out 0; have hfz33_1 := blk_frozen BK499.out 1; have hfz33_2 := blk_frozen BK499.out 2; obtain ⟨Ao34, co34, eo34⟩ := Kd.R_slice HO498.out; subst eo34) | ((with_reducible refine gate_callee (f := 45) rfl ?_); refine goesL_ (some 33) rfl rfl Try.func45 (by kernel_rfl) rfl #[.slice A1 l1.length c1] rfl zM ?_; (with_reducible refine (laws_toInt64SS.calls k _ _ l1 t500 _ ?side1 ?side2 A17.out).mono ?_); (case side1 => exact Kd.C_below HR1.out zB); (case side2 => exact HC1.out); rintro e w35 ⟨v501, rfl, ho0, hb⟩; refine ⟨_, rfl, ?_⟩; have n0_ := Aside0.mk (Kd.R_below (by (with_reducible repeat (first | apply Kd.R_alloc | apply Kd.R_drewN | apply Kd.R_drew)); exact (Kd.R_mono (Kd.R_far (p := ⟨gb499, 2, none⟩) (Kd.R_far (p := ⟨gb499, 1, none⟩) (Kd.R_far (p := ⟨gb499, 0, none⟩) (Kd.R_types HO488.out BK499.out (by decide)) (fun _ hk => hk.2) (.int .i64 t494)) (fun _ hk => hk.2) (.int .i64 t495)) (fun _ hk => hk.2) (.slice Ao34 t496.length co34)) (fun _ h_ => h_.1))) hb); have n1_ := Aside0.mk (Kd.S_elder' (by (with_reducible repeat (first | apply Kd.S_alloc | apply Kd.S_drewN | apply Kd.S_drew)); exact (Kd.S_mono (Kd.S_far (p := ⟨gb499, 2, none⟩) (Kd.S_far (p := ⟨gb499, 1, none⟩) (Kd.S_far (p := ⟨gb499, 0, none⟩) (Kd.S_types HO491.out BK499.out (by decide)) (fun _ hk => hk.2) (.int .i64 t494)) (fun _ hk => hk.2) (.int .i64 t495)) (fun _ hk => hk.2) (.slice Ao34 t496.length co34)) (fun _ h_ => h_.1))) (Kd.S_base ho0) hb); have n2_ := Aside0.mk (Kd.R_below (by (with_reducible repeat (first | apply Kd.R_alloc | apply Kd.R_drewN | apply Kd.R_drew)); exact (Kd.R_mono (Kd.R_far (p := ⟨gb499, 2, none⟩) (Kd.R_far (p := ⟨gb499, 1, none⟩) (Kd.R_far (p := ⟨gb499, 0, none⟩) (Kd.R_types HO498.out BK499.out (by decide)) (fun _ hk => hk.2) (.int .i64 t494)) (fun _ hk => hk.2) (.int .i64 t495)) (fun _ hk => hk.2) (.slice Ao34 t496.length co34)) (fun _ h_ => h_.1))) hb); have n3_ := Aside0.mk (Kd.S_lower (Kd.S_new' ho0 (Kd.S_lt (by (with_reducible repeat (first | apply Kd.S_alloc | apply Kd.S_drewN | apply Kd.S_drew)); exact (Kd.S_mono (Kd.S_far (p := ⟨gb499, 2, none⟩) (Kd.S_far (p := ⟨gb499, 1, none⟩) (Kd.S_far (p := ⟨gb499, 0, none⟩) (Kd.S_types HO491.out BK499.out (by decide)) (fun _ hk => hk.2) (.int .i64 t494)) (fun _ hk => hk.2) (.int .i64 t495)) (fun _ hk => hk.2) (.slice Ao34 t496.length co34)) (fun _ h_ => h_.1))))) (below_size zB)); have n4_ := Aside0.mk (blk_below (g := gb481) (o := .cells #[.int .i64 a0_0, .int .i64 a0_1, .slice A0_2 l0_2.length c0_2] 24 (0, 0)) (by (with_reducible repeat (first | refine blk_drewN ?_ _ | refine blk_drew ?_ | refine blk_alloc ?_ _)); refine blk_far ?_ NB481_499.out _; (with_reducible repeat (first | refine blk_drewN ?_ _ | refine blk_drew ?_ | refine blk_alloc ?_ _)); refine blk_far ?_ NB481_499.out _; (with_reducible repeat (first | refine blk_drewN ?_ _ | refine blk_drew ?_ | refine blk_alloc ?_ _)); refine blk_far ?_ NB481_499.out _; exact zK) hb); have n5_ := Aside0.mk (blk_below (g := gb499) (o := .cells #[.int .i64 t494, .int .i64 t495, .slice Ao34 t496.length co34] 32 (0, 0)) (by (with_reducible repeat (first | refine blk_drewN ?_ _ | refine blk_drew ?_ | refine blk_alloc ?_ _)); refine blk_put (cs := #[.int .i64 t494, .int .i64 t495, .slice none 0 0]) ?_ 2 _ rfl; (with_reducible repeat (first | refine blk_drewN ?_ _ | refine blk_drew ?_ | refine blk_alloc ?_ _)); refine blk_put (cs := #[.int .i64 t494, .int .i64 0, .slice none 0 0]) ?_ 1 _ rfl; (with_reducible repeat (first | refine blk_drewN ?_ _ | refine blk_drew ?_ | refine blk_alloc ?_ _)); refine blk_put (cs := #[.int .i64 0, .int .i64 0, .slice none 0 0]) ?_ 0 _ rfl; exact zK) hb); have n6_ := Aside0.mk (below_step zB hb); clear HO488; clear HO491; clear HO498; clear BK481; clear BK499; clear HB; have HO488 := n0_; have HO491 := n1_; have HO498 := n2_; have HO502 := n3_; have BK481 := n4_; have BK499 := n5_; have HB := n6_; clear n0_ n1_ n2_ n3_ n4_ n5_ n6_; (try clear hb); (try clear hb2); (try clear hk); (try clear hi); (try clear ho0); have hcz36_0 : w35.cell? ⟨gb499, 0, none⟩ = some (.int .i64 t494) := zE BK499; have hcz36_1 : w35.cell? ⟨gb499, 1, none⟩ = some (.int .i64 t495) := zE BK499; have hcz36_2 : w35.cell? ⟨gb499, 2, none⟩ = some (.slice Ao34 t496.length co34) := zE BK499; have hfz36_0 := blk_frozen BK499.out 0; have hfz36_1 := blk_frozen BK499.out 1; have hfz36_2 := blk_frozen BK499.out 2; obtain ⟨Ao37, co37, eo37⟩ := Kd.S_slice HO502.out; subst eo37) | ((with_reducible refine gate_callee (f := 46) rfl ?_); refine goesL_ (some 37) rfl rfl Try.func46 (by kernel_rfl) rfl #[.agg #[.int .i64 t494, .int .i64 t495, .slice Ao34 t496.length co34], .slice Ao37 t500.length co37] rfl zM ?_; (with_reducible refine (impl_IsUnchanged.calls k t494 t495 _ _ t496 _ _ t500 t503 t504 _ ?side1 ?side2 ?side3 ?side4 A18.out).mono ?_); (case side1 => repeat (first | exact (Kd.R_reads' HO498.out).2.2 | (with_reducible refine Kd.C_alloc ?_ _) | (with_reducible refine Kd.C_drewN ?_ _) | (with_reducible refine Kd.C_drew ?_))); (case side2 => exact (Kd.R_reads' HO498.out).2.1); (case side3 => repeat (first | exact (Kd.S_reads' HO502.out).2.2 | (with_reducible refine Kd.C_alloc ?_ _) | (with_reducible refine Kd.C_drewN ?_ _) | (with_reducible refine Kd.C_drew ?_))); (case side4 => exact (Kd.S_reads' HO502.out).2.1); rintro e w38 ⟨rfl, hb⟩; refine ⟨_, rfl, ?_⟩; have n0_ := Aside0.mk (Kd.R_below (by (with_reducible repeat (first | apply Kd.R_alloc | apply Kd.R_drewN | apply Kd.R_drew)); exact HO488.out) hb); have n1_ := Aside0.mk (Kd.S_below (by (with_reducible repeat (first | apply Kd.S_alloc | apply Kd.S_drewN | apply Kd.S_drew)); exact HO491.out) hb); have n2_ := Aside0.mk (Kd.R_below (by (with_reducible repeat (first | apply Kd.R_alloc | apply Kd.R_drewN | apply Kd.R_drew)); exact HO498.out) hb); have n3_ := Aside0.mk (Kd.S_below (by (with_reducible repeat (first | apply Kd.S_alloc | apply Kd.S_drewN | apply Kd.S_drew)); exact HO502.out) hb); have n4_ := Aside0.mk (blk_below (g := gb481) (o := .cells #[.int .i64 a0_0, .int .i64 a0_1, .slice A0_2 l0_2.length c0_2] 24 (0, 0)) zK hb); have n5_ := Aside0.mk (blk_below (g := gb499) (o := .cells #[.int .i64 t494, .int .i64 t495, .slice Ao34 t496.length co34] 32 (0, 0)) zK hb); have n6_ := Aside0.mk (below_step zB hb); clear HO488; clear HO491; clear HO498; clear HO502; clear BK481; clear BK499; clear HB; have HO488 := n0_; have HO491 := n1_; have HO498 := n2_; have HO502 := n3_; have BK481 := n4_; have BK499 := n5_; have HB := n6_; clear n0_ n1_ n2_ n3_ n4_ n5_ n6_; (try clear hb); (try clear hb2); (try clear hk); (try clear hi)))
      (try simp only [Act.put, List.setIfInBounds_toArray, List.set_cons_zero, List.set_cons_succ])
      go_cut [47] (fun v47 wc => ∃ (kq : Nat) (x47_18 : Bool), v47 = .bool x47_18 ∧ Aside0 (laws_FnExactIsUnchanged.j0 kq l1 t500 x47_18 a0_0 a0_1 l0_2 t494 t495 t496 = some r) ∧ Aside0 (kq ≤ k) ∧ Aside0 (Kd.S (Kd.slice 2 (Kd.int .i64)) 48 wc w.heap.size (fun _ => True) (.slice Ao37 t500.length co37) t500) ∧ Aside0 (Kd.R k89 89 wc w.heap.size (fun _ => True) (.slice Ao34 t496.length co34) t496) ∧ Aside0 (wc.heap[gb481]? = some (.cells #[.int .i64 a0_0, .int .i64 a0_1, (.slice A0_2 l0_2.length c0_2)] 24 (0, 0))) ∧ Aside0 (wc.heap[gb499]? = some (.cells #[.int .i64 t494, .int .i64 t495, (.slice Ao34 t496.length co34)] 32 (0, 0))) ∧ Aside0 (Below w.heap.size w wc))
      case first =>
        have H := HC19.out
        clear HC19
        by_cases c39 : (t503 != t492) = true
        · rw [if_pos c39] at H
          have c39b0 : (t503 != t492) = true := c39
          (try (have c39b1 : decide (t503 = t492) = false := by simpa using c39))
          (try (have c39b2 : (t503 == t492) = false := by simpa using c39))
          (try (have c39b3 : ¬ (t503 = t492) := by simpa using c39))
          clear c39
          (first | rw [c39b0] | (simp only [i64_w, i32_w]; rw [c39b0]) | skip)
          have H' := Aside0.mk H
          clear H
          go_wp2
          go_meet
          case rel => exact ⟨_, (true), (by first | rfl | (simp; done) | (simp [*]; done)), H', ⟨by first | omega | exact Nat.le_refl _⟩, ⟨by (with_reducible repeat (first | apply Kd.S_alloc | apply Kd.S_drewN | apply Kd.S_drew)); exact Kd.S_mono HO502.out (fun _ hk => trivial)⟩, ⟨by (with_reducible repeat (first | apply Kd.R_alloc | apply Kd.R_drewN | apply Kd.R_drew)); exact Kd.R_mono HO498.out (fun _ hk => trivial)⟩, ⟨zK⟩, ⟨zK⟩, ⟨zB⟩⟩
        · rw [if_neg c39] at H
          have c39b0 : (t503 != t492) = false := by simpa using c39
          (try (have c39b1 : decide (t503 = t492) = true := by simpa using c39))
          (try (have c39b2 : (t503 == t492) = true := by simpa using c39))
          clear c39
          (first | rw [c39b0] | (simp only [i64_w, i32_w]; rw [c39b0]) | skip)
          have H' := Aside0.mk H
          clear H
          go_wp2
          go_meet
          case rel => exact ⟨_, ((t504 != t493)), (by first | rfl | (simp; done) | (simp [*]; done)), H', ⟨by first | omega | exact Nat.le_refl _⟩, ⟨by (with_reducible repeat (first | apply Kd.S_alloc | apply Kd.S_drewN | apply Kd.S_drew)); exact Kd.S_mono HO502.out (fun _ hk => trivial)⟩, ⟨by (with_reducible repeat (first | apply Kd.R_alloc | apply Kd.R_drewN | apply Kd.R_drew)); exact Kd.R_mono HO498.out (fun _ hk => trivial)⟩, ⟨zK⟩, ⟨zK⟩, ⟨zB⟩⟩
      case rest =>
        clear HC19
        obtain ⟨kq, x47_18, rfl, HA, HJ18, HO_9, HO_500002, BK481, BK499, HB⟩ := hcut
        cases kq with
        | zero => exact absurd HA.out (by simp [laws_FnExactIsUnchanged.j0])
        | succ kj18 =>
          have H := HA.out
          clear HA
          simp only [laws_FnExactIsUnchanged.j0] at H
          by_cases c40 : x47_18 = true
          · subst c40
            have H1 : (some false) = some r := by rw [if_pos rfl] at H; exact H
            clear H
            have H := H1
            clear H1
            obtain rfl := Option.some.inj H
            go_wp2
            go_ret
            exact ⟨by first | rfl | (simp [errW_none, errW_some] <;> rfl) | (simp [*, errW_none, errW_some] <;> rfl), zB⟩
          · replace c40 := Bool.eq_false_iff.mpr c40
            subst c40
            have H1 : ((laws_toSeries.f kj18 a0_0 a0_1 l0_2).bind fun bt505 => ((laws_eqSeries.f kj18 t494 t495 t496 bt505.1 bt505.2.1 bt505.2.2).bind fun t510 => (if t510 = true then ((laws_toInt64SS.f kj18 l1).bind fun t511 => ((laws_eqInt64SS.f kj18 t500 t511).bind fun t514 => (if t514 = true then (some true) else (some false)))) else (some false)))) = some r := by rw [if_neg (show ¬ (false = true) by decide)] at H; exact H
            clear H
            have H := H1
            clear H1
            replace H := Option.bind_eq_some_iff.mp H
            obtain ⟨⟨t505, t506, t507⟩, A410, H⟩ := H
            replace H : ((laws_eqSeries.f kj18 t494 t495 t496 t505 t506 t507).bind fun t510 => (if t510 = true then ((laws_toInt64SS.f kj18 l1).bind fun t511 => ((laws_eqInt64SS.f kj18 t500 t511).bind fun t514 => (if t514 = true then (some true) else (some false)))) else (some false))) = some r := H
            have A41 := Aside0.mk A410
            clear A410
            replace H := Option.bind_eq_some_iff.mp H
            obtain ⟨t510, A420, H⟩ := H
            replace H : (if t510 = true then ((laws_toInt64SS.f kj18 l1).bind fun t511 => ((laws_eqInt64SS.f kj18 t500 t511).bind fun t514 => (if t514 = true then (some true) else (some false)))) else (some false)) = some r := H
            have A42 := Aside0.mk A420
            clear A420
            by_cases c43 : t510 = true
            ·subst c43
             have H1 : ((laws_toInt64SS.f kj18 l1).bind fun t511 => ((laws_eqInt64SS.f kj18 t500 t511).bind fun t514 => (if t514 = true then (some true) else (some false)))) = some r := by rw [if_pos rfl] at H; exact H
             clear H
             have H := H1
             clear H1
             replace H := Option.bind_eq_some_iff.mp H
             obtain ⟨t511, A440, H⟩ := H
             replace H : ((laws_eqInt64SS.f kj18 t500 t511).bind fun t514 => (if t514 = true then (some true) else (some false))) = some r := H
             have A44 := Aside0.mk A440
             clear A440
             replace H := Option.bind_eq_some_iff.mp H
             obtain ⟨t514, A450, H⟩ := H
             replace H : (if t514 = true then (some true) else (some false)) = some r := H
             have A45 := Aside0.mk A450
             clear A450
             by_cases c46 : t514 = true
             ·subst c46
              have H1 : (some true) = some r := by rw [if_pos rfl] at H; exact H
              clear H
              have H := H1
              clear H1
              obtain rfl := Option.some.inj H
              try go_wp2
              replace HO_9 := Aside0.mk (Kd.S_drew HO_9.out)
              replace HO_500002 := Aside0.mk (Kd.R_drew HO_500002.out)
              replace BK481 := Aside0.mk (blk_drew BK481.out)
              replace BK499 := Aside0.mk (blk_drew BK499.out)
              replace HB := Aside0.mk (below_drew1 HB.out)
              refine start_ (n := 5) (S := fun w' => w'.cell? ⟨gb499, 0, none⟩ = some (.int .i64 t494) ∧ w'.cell? ⟨gb499, 1, none⟩ = some (.int .i64 t495) ∧ w'.cell? ⟨gb499, 2, none⟩ = some (.slice Ao34 t496.length co34) ∧ w'.cell? ⟨gb481, 0, none⟩ = some (.int .i64 a0_0) ∧ w'.cell? ⟨gb481, 1, none⟩ = some (.int .i64 a0_1) ∧ w'.cell? ⟨gb481, 2, none⟩ = some (.slice A0_2 l0_2.length c0_2)) (ds := []) #[false, false, false, false, false] (by kernel_rfl) rfl rfl ⟨(blk_cell BK499.out 0).trans rfl, (blk_cell BK499.out 1).trans rfl, (blk_cell BK499.out 2).trans rfl, (blk_cell BK481.out 0).trans rfl, (blk_cell BK481.out 1).trans rfl, (blk_cell BK481.out 2).trans rfl⟩ (fun hHeld => ?_)
              generalize wc.drew = w47 at HO_9 HO_500002 BK481 BK499 HB hHeld ⊢
              refine zT 0 hHeld (N := some 48) (h := ?_)
              refine zT 1 hHeld (N := some 49) (h := ?_)
              refine one_ (i := 2) (N := some 50) #[true, true, true, false, false] rfl rfl (by kernel_rfl) (by decide) (fun K hK => ?_)
              refine goes_ Try.func14 (by kernel_rfl) rfl #[.agg #[.int .i64 a0_0, .int .i64 a0_1, .slice A0_2 l0_2.length c0_2]] (by rfl) rfl rfl zM ?_
              with_reducible refine (laws_toSeries.calls kj18 a0_0 a0_1 _ _ l0_2 t505 t506 t507 _ ?side1 ?side2 A41.out).mono ?_
              (case side1 => repeat (first | exact (Kd.C_below HR0_2.out HB.out) | (with_reducible refine Kd.C_alloc ?_ _) | (with_reducible refine Kd.C_drewN ?_ _) | (with_reducible refine Kd.C_drew ?_)))
              (case side2 => exact HC0_2.out)
              rintro e w48 ⟨v508, rfl, ho0, hb⟩
              refine ⟨_, rfl, ?_⟩
              have HO509 := Aside0.mk (Kd.R_lower (Kd.R_new' ho0 (Kd.R_lt HO_500002.out)) (below_size zB))
              replace HO_9 := Aside0.mk (Kd.S_below HO_9.out hb)
              replace HO_500002 := Aside0.mk (Kd.R_elder' zR (Kd.R_base ho0) hb)
              replace BK481 := Aside0.mk (zW BK481 hb)
              replace BK499 := Aside0.mk (zW BK499 hb)
              replace HB := Aside0.mk (below_step zB hb)
              (try clear hb)
              (try clear hb2)
              (try clear hk)
              (try clear hi)
              (try clear ho0)
              obtain ⟨Ao49, co49, eo49⟩ := Kd.R_slice HO509.out
              (first | subst eo49 | (injection eo49 with f1_ f2_ f3_; have f4_ := f1_.symm; have f5_ := f3_.symm; clear f1_ f2_ f3_; subst f4_; subst f5_))
              refine hK.out _ _ ⟨(blk_cell BK499.out 0).trans rfl, (blk_cell BK499.out 1).trans rfl, (blk_cell BK499.out 2).trans rfl, (blk_cell BK481.out 0).trans rfl, (blk_cell BK481.out 1).trans rfl, (blk_cell BK481.out 2).trans rfl⟩ (fun hHeld => ?_)
              clear hK K
              refine norm_ (a' := ?_) ?_ ?_
              rotate_left
              ·show Act.put _ (some 50) _ = _
               simp only [Act.put, List.setIfInBounds_toArray, List.set_cons_zero, List.set_cons_succ, i64_w, i32_w]
               rfl
              refine one_ (i := 3) (N := some 51) #[true, true, true, true, false] rfl rfl (by kernel_rfl) (by decide) (fun K hK => ?_)
              refine goes_ Try.func17 (by kernel_rfl) rfl #[.agg #[.int .i64 t494, .int .i64 t495, .slice Ao34 t496.length co34], .agg #[.int .i64 t505, .int .i64 t506, .slice Ao49 t507.length co49]] (by rfl) rfl rfl zM ?_
              with_reducible refine (laws_eqSeries.calls kj18 t494 t495 _ _ t496 t505 t506 _ _ t507 true _ ?side1 ?side2 ?side3 ?side4 A42.out).mono ?_
              (case side1 => repeat (first | exact (Kd.R_reads' HO_500002.out).2.2 | (with_reducible refine Kd.C_alloc ?_ _) | (with_reducible refine Kd.C_drewN ?_ _) | (with_reducible refine Kd.C_drew ?_)))
              (case side2 => exact (Kd.R_reads' HO_500002.out).2.1)
              (case side3 => repeat (first | exact (Kd.R_reads' HO509.out).2.2 | (with_reducible refine Kd.C_alloc ?_ _) | (with_reducible refine Kd.C_drewN ?_ _) | (with_reducible refine Kd.C_drew ?_)))
              (case side4 => exact (Kd.R_reads' HO509.out).2.1)
              rintro e w50 ⟨rfl, hb⟩
              refine ⟨_, rfl, ?_⟩
              replace HO_9 := Aside0.mk (Kd.S_below HO_9.out hb)
              replace HO_500002 := Aside0.mk (Kd.R_below HO_500002.out hb)
              replace HO509 := Aside0.mk (Kd.R_below HO509.out hb)
              replace BK481 := Aside0.mk (zW BK481 hb)
              replace BK499 := Aside0.mk (zW BK499 hb)
              replace HB := Aside0.mk (below_step zB hb)
              (try clear hb)
              (try clear hb2)
              (try clear hk)
              (try clear hi)
              refine hK.out _ _ ⟨(blk_cell BK499.out 0).trans rfl, (blk_cell BK499.out 1).trans rfl, (blk_cell BK499.out 2).trans rfl, (blk_cell BK481.out 0).trans rfl, (blk_cell BK481.out 1).trans rfl, (blk_cell BK481.out 2).trans rfl⟩ (fun hHeld => ?_)
              clear hK K
              refine norm_ (a' := ?_) ?_ ?_
              rotate_left
              ·show Act.put _ (some 51) _ = _
               simp only [Act.put, List.setIfInBounds_toArray, List.set_cons_zero, List.set_cons_succ, i64_w, i32_w]
               rfl
              refine zP 4 (N := some 52) (h := ?_)
              refine done_ (by kernel_rfl) ?_
              try go_wp2_with (first | ((with_reducible refine gate_callee (f := 45) rfl ?_); refine goesL_ (some 55) rfl rfl Try.func45 (by kernel_rfl) rfl #[.slice A1 l1.length c1] rfl zM ?_; (with_reducible refine (laws_toInt64SS.calls kj18 _ _ l1 t511 _ ?side1 ?side2 A44.out).mono ?_); (case side1 => repeat (first | exact (Kd.C_below HR1.out HB.out) | (with_reducible refine Kd.C_alloc ?_ _) | (with_reducible refine Kd.C_drewN ?_ _) | (with_reducible refine Kd.C_drew ?_))); (case side2 => exact HC1.out); rintro e w51 ⟨v512, rfl, ho0, hb⟩; refine ⟨_, rfl, ?_⟩; have HO513 := Aside0.mk (Kd.S_lower (Kd.S_new' ho0 (Kd.S_lt zS)) (below_size zB)); replace HO_9 := Aside0.mk (Kd.S_elder' zS (Kd.S_base ho0) hb); replace HO_500002 := Aside0.mk (Kd.R_below HO_500002.out hb); replace HO509 := Aside0.mk (Kd.R_below HO509.out hb); replace BK481 := Aside0.mk (zW BK481 hb); replace BK499 := Aside0.mk (zW BK499 hb); replace HB := Aside0.mk (below_step zB hb); (try clear hb); (try clear hb2); (try clear hk); (try clear hi); (try clear ho0); obtain ⟨Ao52, co52, eo52⟩ := Kd.S_slice HO513.out; subst eo52) | ((with_reducible refine gate_callee (f := 47) rfl ?_); refine goesL_ (some 56) rfl rfl Try.func47 (by kernel_rfl) rfl #[.slice Ao37 t500.length co37, .slice Ao52 t511.length co52] rfl zM ?_; (with_reducible refine (laws_eqInt64SS.calls kj18 _ _ t500 _ _ t511 true _ ?side1 ?side2 ?side3 ?side4 A45.out).mono ?_); (case side1 => repeat (first | exact (Kd.S_reads' HO_9.out).2.2 | (with_reducible refine Kd.C_alloc ?_ _) | (with_reducible refine Kd.C_drewN ?_ _) | (with_reducible refine Kd.C_drew ?_))); (case side2 => exact (Kd.S_reads' HO_9.out).2.1); (case side3 => repeat (first | exact (Kd.S_reads' HO513.out).2.2 | (with_reducible refine Kd.C_alloc ?_ _) | (with_reducible refine Kd.C_drewN ?_ _) | (with_reducible refine Kd.C_drew ?_))); (case side4 => exact (Kd.S_reads' HO513.out).2.1); rintro e w' ⟨rfl, ⟨nd, rfl⟩⟩; refine ⟨_, rfl, ?_⟩))
              go_ret
              exact ⟨by first | rfl | (simp [errW_none, errW_some] <;> rfl) | (simp [*, errW_none, errW_some] <;> rfl), zB⟩
             ·replace c46 := Bool.eq_false_iff.mpr c46
              subst c46
              have H1 : (some false) = some r := by rw [if_neg (show ¬ (false = true) by decide)] at H; exact H
              clear H
              have H := H1
              clear H1
              obtain rfl := Option.some.inj H
              try go_wp2
              replace HO_9 := Aside0.mk (Kd.S_drew HO_9.out)
              replace HO_500002 := Aside0.mk (Kd.R_drew HO_500002.out)
              replace BK481 := Aside0.mk (blk_drew BK481.out)
              replace BK499 := Aside0.mk (blk_drew BK499.out)
              replace HB := Aside0.mk (below_drew1 HB.out)
              refine start_ (n := 5) (S := fun w' => w'.cell? ⟨gb499, 0, none⟩ = some (.int .i64 t494) ∧ w'.cell? ⟨gb499, 1, none⟩ = some (.int .i64 t495) ∧ w'.cell? ⟨gb499, 2, none⟩ = some (.slice Ao34 t496.length co34) ∧ w'.cell? ⟨gb481, 0, none⟩ = some (.int .i64 a0_0) ∧ w'.cell? ⟨gb481, 1, none⟩ = some (.int .i64 a0_1) ∧ w'.cell? ⟨gb481, 2, none⟩ = some (.slice A0_2 l0_2.length c0_2)) (ds := []) #[false, false, false, false, false] (by kernel_rfl) rfl rfl ⟨(blk_cell BK499.out 0).trans rfl, (blk_cell BK499.out 1).trans rfl, (blk_cell BK499.out 2).trans rfl, (blk_cell BK481.out 0).trans rfl, (blk_cell BK481.out 1).trans rfl, (blk_cell BK481.out 2).trans rfl⟩ (fun hHeld => ?_)
              generalize wc.drew = w53 at HO_9 HO_500002 BK481 BK499 HB hHeld ⊢
              refine zT 0 hHeld (N := some 48) (h := ?_)
              refine zT 1 hHeld (N := some 49) (h := ?_)
              refine one_ (i := 2) (N := some 50) #[true, true, true, false, false] rfl rfl (by kernel_rfl) (by decide) (fun K hK => ?_)
              refine goes_ Try.func14 (by kernel_rfl) rfl #[.agg #[.int .i64 a0_0, .int .i64 a0_1, .slice A0_2 l0_2.length c0_2]] (by rfl) rfl rfl zM ?_
              with_reducible refine (laws_toSeries.calls kj18 a0_0 a0_1 _ _ l0_2 t505 t506 t507 _ ?side1 ?side2 A41.out).mono ?_
              (case side1 => repeat (first | exact (Kd.C_below HR0_2.out HB.out) | (with_reducible refine Kd.C_alloc ?_ _) | (with_reducible refine Kd.C_drewN ?_ _) | (with_reducible refine Kd.C_drew ?_)))
              (case side2 => exact HC0_2.out)
              rintro e w54 ⟨v508, rfl, ho0, hb⟩
              refine ⟨_, rfl, ?_⟩
              have HO509 := Aside0.mk (Kd.R_lower (Kd.R_new' ho0 (Kd.R_lt HO_500002.out)) (below_size zB))
              replace HO_9 := Aside0.mk (Kd.S_below HO_9.out hb)
              replace HO_500002 := Aside0.mk (Kd.R_elder' zR (Kd.R_base ho0) hb)
              replace BK481 := Aside0.mk (zW BK481 hb)
              replace BK499 := Aside0.mk (zW BK499 hb)
              replace HB := Aside0.mk (below_step zB hb)
              (try clear hb)
              (try clear hb2)
              (try clear hk)
              (try clear hi)
              (try clear ho0)
              obtain ⟨Ao55, co55, eo55⟩ := Kd.R_slice HO509.out
              (first | subst eo55 | (injection eo55 with f1_ f2_ f3_; have f4_ := f1_.symm; have f5_ := f3_.symm; clear f1_ f2_ f3_; subst f4_; subst f5_))
              refine hK.out _ _ ⟨(blk_cell BK499.out 0).trans rfl, (blk_cell BK499.out 1).trans rfl, (blk_cell BK499.out 2).trans rfl, (blk_cell BK481.out 0).trans rfl, (blk_cell BK481.out 1).trans rfl, (blk_cell BK481.out 2).trans rfl⟩ (fun hHeld => ?_)
              clear hK K
              refine norm_ (a' := ?_) ?_ ?_
              rotate_left
              ·show Act.put _ (some 50) _ = _
               simp only [Act.put, List.setIfInBounds_toArray, List.set_cons_zero, List.set_cons_succ, i64_w, i32_w]
               rfl
              refine one_ (i := 3) (N := some 51) #[true, true, true, true, false] rfl rfl (by kernel_rfl) (by decide) (fun K hK => ?_)
              refine goes_ Try.func17 (by kernel_rfl) rfl #[.agg #[.int .i64 t494, .int .i64 t495, .slice Ao34 t496.length co34], .agg #[.int .i64 t505, .int .i64 t506, .slice Ao55 t507.length co55]] (by rfl) rfl rfl zM ?_
              with_reducible refine (laws_eqSeries.calls kj18 t494 t495 _ _ t496 t505 t506 _ _ t507 true _ ?side1 ?side2 ?side3 ?side4 A42.out).mono ?_
              (case side1 => repeat (first | exact (Kd.R_reads' HO_500002.out).2.2 | (with_reducible refine Kd.C_alloc ?_ _) | (with_reducible refine Kd.C_drewN ?_ _) | (with_reducible refine Kd.C_drew ?_)))
              (case side2 => exact (Kd.R_reads' HO_500002.out).2.1)
              (case side3 => repeat (first | exact (Kd.R_reads' HO509.out).2.2 | (with_reducible refine Kd.C_alloc ?_ _) | (with_reducible refine Kd.C_drewN ?_ _) | (with_reducible refine Kd.C_drew ?_)))
              (case side4 => exact (Kd.R_reads' HO509.out).2.1)
              rintro e w56 ⟨rfl, hb⟩
              refine ⟨_, rfl, ?_⟩
              replace HO_9 := Aside0.mk (Kd.S_below HO_9.out hb)
              replace HO_500002 := Aside0.mk (Kd.R_below HO_500002.out hb)
              replace HO509 := Aside0.mk (Kd.R_below HO509.out hb)
              replace BK481 := Aside0.mk (zW BK481 hb)
              replace BK499 := Aside0.mk (zW BK499 hb)
              replace HB := Aside0.mk (below_step zB hb)
              (try clear hb)
              (try clear hb2)
              (try clear hk)
              (try clear hi)
              refine hK.out _ _ ⟨(blk_cell BK499.out 0).trans rfl, (blk_cell BK499.out 1).trans rfl, (blk_cell BK499.out 2).trans rfl, (blk_cell BK481.out 0).trans rfl, (blk_cell BK481.out 1).trans rfl, (blk_cell BK481.out 2).trans rfl⟩ (fun hHeld => ?_)
              clear hK K
              refine norm_ (a' := ?_) ?_ ?_
              rotate_left
              ·show Act.put _ (some 51) _ = _
               simp only [Act.put, List.setIfInBounds_toArray, List.set_cons_zero, List.set_cons_succ, i64_w, i32_w]
               rfl
              refine zP 4 (N := some 52) (h := ?_)
              refine done_ (by kernel_rfl) ?_
              try go_wp2_with (first | ((with_reducible refine gate_callee (f := 45) rfl ?_); refine goesL_ (some 55) rfl rfl Try.func45 (by kernel_rfl) rfl #[.slice A1 l1.length c1] rfl zM ?_; (with_reducible refine (laws_toInt64SS.calls kj18 _ _ l1 t511 _ ?side1 ?side2 A44.out).mono ?_); (case side1 => repeat (first | exact (Kd.C_below HR1.out HB.out) | (with_reducible refine Kd.C_alloc ?_ _) | (with_reducible refine Kd.C_drewN ?_ _) | (with_reducible refine Kd.C_drew ?_))); (case side2 => exact HC1.out); rintro e w57 ⟨v512, rfl, ho0, hb⟩; refine ⟨_, rfl, ?_⟩; have HO513 := Aside0.mk (Kd.S_lower (Kd.S_new' ho0 (Kd.S_lt zS)) (below_size zB)); replace HO_9 := Aside0.mk (Kd.S_elder' zS (Kd.S_base ho0) hb); replace HO_500002 := Aside0.mk (Kd.R_below HO_500002.out hb); replace HO509 := Aside0.mk (Kd.R_below HO509.out hb); replace BK481 := Aside0.mk (zW BK481 hb); replace BK499 := Aside0.mk (zW BK499 hb); replace HB := Aside0.mk (below_step zB hb); (try clear hb); (try clear hb2); (try clear hk); (try clear hi); (try clear ho0); obtain ⟨Ao58, co58, eo58⟩ := Kd.S_slice HO513.out; subst eo58) | ((with_reducible refine gate_callee (f := 47) rfl ?_); refine goesL_ (some 56) rfl rfl Try.func47 (by kernel_rfl) rfl #[.slice Ao37 t500.length co37, .slice Ao58 t511.length co58] rfl zM ?_; (with_reducible refine (laws_eqInt64SS.calls kj18 _ _ t500 _ _ t511 false _ ?side1 ?side2 ?side3 ?side4 A45.out).mono ?_); (case side1 => repeat (first | exact (Kd.S_reads' HO_9.out).2.2 | (with_reducible refine Kd.C_alloc ?_ _) | (with_reducible refine Kd.C_drewN ?_ _) | (with_reducible refine Kd.C_drew ?_))); (case side2 => exact (Kd.S_reads' HO_9.out).2.1); (case side3 => repeat (first | exact (Kd.S_reads' HO513.out).2.2 | (with_reducible refine Kd.C_alloc ?_ _) | (with_reducible refine Kd.C_drewN ?_ _) | (with_reducible refine Kd.C_drew ?_))); (case side4 => exact (Kd.S_reads' HO513.out).2.1); rintro e w' ⟨rfl, ⟨nd, rfl⟩⟩; refine ⟨_, rfl, ?_⟩))
              go_ret
              exact ⟨by first | rfl | (simp [errW_none, errW_some] <;> rfl) | (simp [*, errW_none, errW_some] <;> rfl), zB⟩
            ·replace c43 := Bool.eq_false_iff.mpr c43
             subst c43
             have H1 : (some false) = some r := by rw [if_neg (show ¬ (false = true) by decide)] at H; exact H
             clear H
             have H := H1
             clear H1
             obtain rfl := Option.some.inj H
             try go_wp2
             replace HO_9 := Aside0.mk (Kd.S_drew HO_9.out)
             replace HO_500002 := Aside0.mk (Kd.R_drew HO_500002.out)
             replace BK481 := Aside0.mk (blk_drew BK481.out)
             replace BK499 := Aside0.mk (blk_drew BK499.out)
             replace HB := Aside0.mk (below_drew1 HB.out)
             refine start_ (n := 5) (S := fun w' => w'.cell? ⟨gb499, 0, none⟩ = some (.int .i64 t494) ∧ w'.cell? ⟨gb499, 1, none⟩ = some (.int .i64 t495) ∧ w'.cell? ⟨gb499, 2, none⟩ = some (.slice Ao34 t496.length co34) ∧ w'.cell? ⟨gb481, 0, none⟩ = some (.int .i64 a0_0) ∧ w'.cell? ⟨gb481, 1, none⟩ = some (.int .i64 a0_1) ∧ w'.cell? ⟨gb481, 2, none⟩ = some (.slice A0_2 l0_2.length c0_2)) (ds := []) #[false, false, false, false, false] (by kernel_rfl) rfl rfl ⟨(blk_cell BK499.out 0).trans rfl, (blk_cell BK499.out 1).trans rfl, (blk_cell BK499.out 2).trans rfl, (blk_cell BK481.out 0).trans rfl, (blk_cell BK481.out 1).trans rfl, (blk_cell BK481.out 2).trans rfl⟩ (fun hHeld => ?_)
             generalize wc.drew = w59 at HO_9 HO_500002 BK481 BK499 HB hHeld ⊢
             refine zT 0 hHeld (N := some 48) (h := ?_)
             refine zT 1 hHeld (N := some 49) (h := ?_)
             refine one_ (i := 2) (N := some 50) #[true, true, true, false, false] rfl rfl (by kernel_rfl) (by decide) (fun K hK => ?_)
             refine goes_ Try.func14 (by kernel_rfl) rfl #[.agg #[.int .i64 a0_0, .int .i64 a0_1, .slice A0_2 l0_2.length c0_2]] (by rfl) rfl rfl zM ?_
             with_reducible refine (laws_toSeries.calls kj18 a0_0 a0_1 _ _ l0_2 t505 t506 t507 _ ?side1 ?side2 A41.out).mono ?_
             (case side1 => repeat (first | exact (Kd.C_below HR0_2.out HB.out) | (with_reducible refine Kd.C_alloc ?_ _) | (with_reducible refine Kd.C_drewN ?_ _) | (with_reducible refine Kd.C_drew ?_)))
             (case side2 => exact HC0_2.out)
             rintro e w60 ⟨v508, rfl, ho0, hb⟩
             refine ⟨_, rfl, ?_⟩
             have HO509 := Aside0.mk (Kd.R_lower (Kd.R_new' ho0 (Kd.R_lt HO_500002.out)) (below_size zB))
             replace HO_9 := Aside0.mk (Kd.S_below HO_9.out hb)
             replace HO_500002 := Aside0.mk (Kd.R_elder' zR (Kd.R_base ho0) hb)
             replace BK481 := Aside0.mk (zW BK481 hb)
             replace BK499 := Aside0.mk (zW BK499 hb)
             replace HB := Aside0.mk (below_step zB hb)
             (try clear hb)
             (try clear hb2)
             (try clear hk)
             (try clear hi)
             (try clear ho0)
             obtain ⟨Ao61, co61, eo61⟩ := Kd.R_slice HO509.out
             (first | subst eo61 | (injection eo61 with f1_ f2_ f3_; have f4_ := f1_.symm; have f5_ := f3_.symm; clear f1_ f2_ f3_; subst f4_; subst f5_))
             refine hK.out _ _ ⟨(blk_cell BK499.out 0).trans rfl, (blk_cell BK499.out 1).trans rfl, (blk_cell BK499.out 2).trans rfl, (blk_cell BK481.out 0).trans rfl, (blk_cell BK481.out 1).trans rfl, (blk_cell BK481.out 2).trans rfl⟩ (fun hHeld => ?_)
             clear hK K
             refine norm_ (a' := ?_) ?_ ?_
             rotate_left
             ·show Act.put _ (some 50) _ = _
              simp only [Act.put, List.setIfInBounds_toArray, List.set_cons_zero, List.set_cons_succ, i64_w, i32_w]
              rfl
             refine one_ (i := 3) (N := some 51) #[true, true, true, true, false] rfl rfl (by kernel_rfl) (by decide) (fun K hK => ?_)
             refine goes_ Try.func17 (by kernel_rfl) rfl #[.agg #[.int .i64 t494, .int .i64 t495, .slice Ao34 t496.length co34], .agg #[.int .i64 t505, .int .i64 t506, .slice Ao61 t507.length co61]] (by rfl) rfl rfl zM ?_
             with_reducible refine (laws_eqSeries.calls kj18 t494 t495 _ _ t496 t505 t506 _ _ t507 false _ ?side1 ?side2 ?side3 ?side4 A42.out).mono ?_
             (case side1 => repeat (first | exact (Kd.R_reads' HO_500002.out).2.2 | (with_reducible refine Kd.C_alloc ?_ _) | (with_reducible refine Kd.C_drewN ?_ _) | (with_reducible refine Kd.C_drew ?_)))
             (case side2 => exact (Kd.R_reads' HO_500002.out).2.1)
             (case side3 => repeat (first | exact (Kd.R_reads' HO509.out).2.2 | (with_reducible refine Kd.C_alloc ?_ _) | (with_reducible refine Kd.C_drewN ?_ _) | (with_reducible refine Kd.C_drew ?_)))
             (case side4 => exact (Kd.R_reads' HO509.out).2.1)
             rintro e w62 ⟨rfl, hb⟩
             refine ⟨_, rfl, ?_⟩
             replace HO_9 := Aside0.mk (Kd.S_below HO_9.out hb)
             replace HO_500002 := Aside0.mk (Kd.R_below HO_500002.out hb)
             replace HO509 := Aside0.mk (Kd.R_below HO509.out hb)
             replace BK481 := Aside0.mk (zW BK481 hb)
             replace BK499 := Aside0.mk (zW BK499 hb)
             replace HB := Aside0.mk (below_step zB hb)
             (try clear hb)
             (try clear hb2)
             (try clear hk)
             (try clear hi)
             refine hK.out _ _ ⟨(blk_cell BK499.out 0).trans rfl, (blk_cell BK499.out 1).trans rfl, (blk_cell BK499.out 2).trans rfl, (blk_cell BK481.out 0).trans rfl, (blk_cell BK481.out 1).trans rfl, (blk_cell BK481.out 2).trans rfl⟩ (fun hHeld => ?_)
             clear hK K
             refine norm_ (a' := ?_) ?_ ?_
             rotate_left
             ·show Act.put _ (some 51) _ = _
              simp only [Act.put, List.setIfInBounds_toArray, List.set_cons_zero, List.set_cons_succ, i64_w, i32_w]
              rfl
             refine zP 4 (N := some 52) (h := ?_)
             refine done_ (by kernel_rfl) ?_
             try go_wp2
             go_ret
             exact ⟨by first | rfl | (simp [errW_none, errW_some] <;> rfl) | (simp [*, errW_none, errW_some] <;> rfl), zB⟩

end Go.Proofs.Ytcklefgkbddlhaa.P
