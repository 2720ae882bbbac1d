/- What a call of each Go function named below comes to is what the plain Lean function beside it says. Made by a program of this session out of the print of the translation; Lean checks it. -/
import Derived.Test.YtcklefgkbddlhaaPx0
import Derived.Test.YtcklefgkbddlhaaPx1
import Derived.Test.YtcklefgkbddlhaaPx3
import Derived.Test.YtcklefgkbddlhaaPx4
import Derived.Test.YtcklefgkbddlhaaPx5
import Derived.Test.YtcklefgkbddlhaaPx9
namespace Go.Proofs.Ytcklefgkbddlhaa.P
open Go.RowKit Go.Proofs.YtcklefgkbddlhaaW.PrintWords Go.Proofs.YtcklefgkbddlhaaW.PrintLast Go.Proofs.YtcklefgkbddlhaaW.PrintMore
attribute [local go_sem] max2_int min2_int max_two min_two max_three min_three max_four min_four   -- for this text's walks alone
set_option linter.unusedVariables false
set_option linter.unusedSimpArgs false

attribute [local go_sem high] eqA89
/-! ### spec_MapSeries: function 48 -/
def spec_MapSeries.j0 : Nat → Int → List (List Int) → Bool → Int → Int → List (S89) → Option (Int × Int × (List (S89)) × Int)
  | 0, _, _, _, _, _, _ => none
  | k + 1, x1, x2, x15, x272000, x272001, x272002 => if x15 = true then (some (0, 0, ([] : List (S89)), 2)) else ((spec_l07Map.f k x272000 x272001 x272002 x1 x2).bind fun bt276 => (if bt276.2.2.2 = true then (some (bt276.1, bt276.2.1, bt276.2.2.1, 0)) else (some (0, 0, ([] : List (S89)), 3))))
def spec_MapSeries.f (k : Nat) (a0_0 : Int) (a0_1 : Int) (l0_2 : List (S89)) (a1 : Int) (l2 : List (List Int)) : Option (Int × Int × (List (S89)) × Int) := (spec_l01Is.f k a0_0 a0_1 l0_2).bind fun t273 => (if t273 = true then ((spec_l07Is.f k a0_0 a1 l2).bind fun t274 => (if t274 = true then ((spec_l01Sizes.f a1 a0_1).bind fun t275 => (spec_MapSeries.j0 k a1 l2 (!t275) a0_0 a0_1 l0_2)) else (spec_MapSeries.j0 k a1 l2 true a0_0 a0_1 l0_2))) else (some (0, 0, ([] : List (S89)), 1)))
theorem spec_MapSeries.mono_l : ∀ k, (∀ y0 y1 y2 y3 y4 y5, LeO (spec_MapSeries.j0 k y0 y1 y2 y3 y4 y5) (spec_MapSeries.j0 (k + 1) y0 y1 y2 y3 y4 y5))
  | 0 => fun _ _ _ _ _ _ r h => by simp [spec_MapSeries.j0] at h
  | k + 1 => by
    have ih0 := spec_MapSeries.mono_l k
    · intro y0 y1 y2 y3 y4 y5
      unfold spec_MapSeries.j0
      repeat' first
      | (with_reducible exact ih0 _ _ _ _ _ _)
      | (with_reducible exact spec_l01Is.mono _ _ _ _)
      | (with_reducible exact spec_l07Is.mono _ _ _ _)
      | (with_reducible exact spec_l07Map.mono _ _ _ _ _ _)
      | (with_reducible exact LeO.refl _)
      | (with_reducible exact LeO.none _)
      | (with_reducible refine LeO.ite ?_ ?_)
      | (with_reducible refine LeO.bind ?_ (fun _ => ?_))
theorem spec_MapSeries.mono : ∀ a0 a1 a2 a3 a4 k, LeO (spec_MapSeries.f k a0 a1 a2 a3 a4) (spec_MapSeries.f (k + 1) a0 a1 a2 a3 a4) := by
  intro a0 a1 a2 a3 a4 k
  have ih0 := spec_MapSeries.mono_l k
  unfold spec_MapSeries.f
  repeat' first
      | (with_reducible exact ih0 _ _ _ _ _ _)
      | (with_reducible exact spec_l01Is.mono _ _ _ _)
      | (with_reducible exact spec_l07Is.mono _ _ _ _)
      | (with_reducible exact spec_l07Map.mono _ _ _ _ _ _)
      | (with_reducible exact LeO.refl _)
      | (with_reducible exact LeO.none _)
      | (with_reducible refine LeO.ite ?_ ?_)
      | (with_reducible refine LeO.bind ?_ (fun _ => ?_))
set_option maxHeartbeats 8000000 in
set_option maxRecDepth 100000 in
theorem spec_MapSeries.calls (k : Nat) (a0_0 : Int) (a0_1 : Int) (A0_2 : Option Addr) (c0_2 : Nat) (l0_2 : List (S89)) (a1 : Int) (A2 : Option Addr) (c2 : Nat) (l2 : List (List Int)) (r1 : Int) (r2 : Int) (r3 : List (S89)) (r4 : Int) (w : World) (hr0_2 : Kd.C k89 w A0_2 l0_2.length l0_2) (hc0_2 : l0_2.length ≤ c0_2) (hr2 : Kd.C (Kd.slice 2 (Kd.int .i64)) w A2 l2.length l2) (hc2 : l2.length ≤ c2) (h : spec_MapSeries.f k a0_0 a0_1 l0_2 a1 l2 = some (r1, r2, r3, r4)) :
    Calls Try.prog 48 #[.agg #[.int .i64 a0_0, .int .i64 a0_1, .slice A0_2 l0_2.length c0_2], .int .i64 a1, .slice A2 l2.length c2] w fun e w' => ∃ v2_ : Value, e = .returned (.tuple #[.agg #[.int .i64 r1, .int .i64 r2, v2_], .int .i64 r4]) ∧ Kd.R k89 89 w' w.heap.size (fun _ => True) v2_ r3 ∧ Below w.heap.size w w' := by
  have hu32 := Try.underlying32
  have HR0_2 := Aside0.mk hr0_2
  have HC0_2 := Aside0.mk hc0_2
  clear hr0_2 hc0_2
  have HR2 := Aside0.mk hr2
  have HC2 := Aside0.mk hc2
  clear hr2 hc2
  have HB := Aside0.mk (Below.refl w.heap.size w)
  have H : ((spec_l01Is.f k a0_0 a0_1 l0_2).bind fun t273 => (if t273 = true then ((spec_l07Is.f k a0_0 a1 l2).bind fun t274 => (if t274 = true then ((spec_l01Sizes.f a1 a0_1).bind fun t275 => (spec_MapSeries.j0 k a1 l2 (!t275) a0_0 a0_1 l0_2)) else (spec_MapSeries.j0 k a1 l2 true a0_0 a0_1 l0_2))) else (some (0, 0, ([] : List (S89)), 1)))) = some (r1, r2, r3, r4) := h
  clear h
  replace H := Option.bind_eq_some_iff.mp H
  obtain ⟨t273, A40, H⟩ := H
  replace H : (if t273 = true then ((spec_l07Is.f k a0_0 a1 l2).bind fun t274 => (if t274 = true then ((spec_l01Sizes.f a1 a0_1).bind fun t275 => (spec_MapSeries.j0 k a1 l2 (!t275) a0_0 a0_1 l0_2)) else (spec_MapSeries.j0 k a1 l2 true a0_0 a0_1 l0_2))) else (some (0, 0, ([] : List (S89)), 1))) = some (r1, r2, r3, r4) := H
  have A4 := Aside0.mk A40
  clear A40
  by_cases c5 : t273 = true
  · subst c5
    have H1 : ((spec_l07Is.f k a0_0 a1 l2).bind fun t274 => (if t274 = true then ((spec_l01Sizes.f a1 a0_1).bind fun t275 => (spec_MapSeries.j0 k a1 l2 (!t275) a0_0 a0_1 l0_2)) else (spec_MapSeries.j0 k a1 l2 true a0_0 a0_1 l0_2))) = some (r1, r2, r3, r4) := by rw [if_pos rfl] at H; exact H
    clear H
    have H := H1
    clear H1
    have HC6 := Aside0.mk H
    clear H
    go_enter Try.func48, Try.ntmps48
    go_upto_region 3 with (first | ((with_reducible refine gate_dst (N := 3) rfl ?_); refine zX 3 (#[.int .i64 a0_0, .int .i64 a0_1, .slice A0_2 l0_2.length c0_2]) 32 ?_; intro gb271 hg w7 hbox hb; have BK271 := Aside0.mk (hbox); have GW271 := Aside0.mk (zG : w.heap.size ≤ gb271); have GE271 := Aside0.mk (zG : w.heap.size ≤ gb271); replace HB := Aside0.mk (below_step zB hb); clear hb hbox hg) | ((with_reducible refine gate_dst (N := 6) rfl ?_); refine zX 6 (#[.int .i64 0, .int .i64 0, .slice none 0 0]) 32 ?_; intro gb272 hg w8 hbox hb; have BK272 := Aside0.mk (hbox); have GW272 := Aside0.mk (zG : w.heap.size ≤ gb272); have GE272 := Aside0.mk (zG : w.heap.size ≤ gb272); have NB271_272 := Aside0.mk (zU BK271 hg); have NB272_271 := Aside0.mk (zV BK271 hg); replace BK271 := Aside0.mk (zW BK271 hb); replace HB := Aside0.mk (below_step zB hb); clear hb hbox hg; have hnb9 := NB271_272.out; have hnc9 := NB272_271.out; obtain ⟨hcz10_0, hcz10_1, hcz10_2, hfz10_0, hfz10_1, hfz10_2⟩ := zC3 BK271) | ((with_reducible refine gate_callee (f := 52) rfl ?_); refine goesL_ (some 12) rfl rfl Try.func52 (by kernel_rfl) rfl #[.agg #[.int .i64 a0_0, .int .i64 a0_1, .slice A0_2 l0_2.length c0_2]] rfl zM ?_; (with_reducible refine (spec_l01Is.calls k a0_0 a0_1 _ _ l0_2 true _ ?side1 ?side2 A4.out).mono ?_); (case side1 => repeat (first | exact (Kd.C_below HR0_2.out HB.out) | (with_reducible refine Kd.C_alloc ?_ _) | (with_reducible refine Kd.C_drewN ?_ _) | (with_reducible refine Kd.C_drew ?_))); (case side2 => exact HC0_2.out); rintro e w11 ⟨rfl, hb⟩; refine ⟨_, rfl, ?_⟩; replace BK271 := Aside0.mk (zW BK271 hb); replace BK272 := Aside0.mk (zW BK272 hb); replace HB := Aside0.mk (below_step zB hb); (try clear hb); (try clear hb2); (try clear hk); (try clear hi)))
    (try simp only [Act.put, List.setIfInBounds_toArray, List.set_cons_zero, List.set_cons_succ])
    go_cut [15] (fun v15 wc => ∃ (kq : Nat) (x15_5 : Bool), v15 = .bool x15_5 ∧ Aside0 (spec_MapSeries.j0 kq a1 l2 x15_5 a0_0 a0_1 l0_2 = some (r1, r2, r3, r4)) ∧ Aside0 (kq ≤ k) ∧ Aside0 (wc.heap[gb271]? = some (.cells #[.int .i64 a0_0, .int .i64 a0_1, (.slice A0_2 l0_2.length c0_2)] 32 (0, 0))) ∧ Aside0 (wc.heap[gb272]? = some (.cells #[.int .i64 0, .int .i64 0, (.slice none 0 0)] 32 (0, 0))) ∧ Aside0 (Below w.heap.size w wc))
    case first =>
      have H := HC6.out
      clear HC6
      replace H := Option.bind_eq_some_iff.mp H
      obtain ⟨t274, A120, H⟩ := H
      replace H : (if t274 = true then ((spec_l01Sizes.f a1 a0_1).bind fun t275 => (spec_MapSeries.j0 k a1 l2 (!t275) a0_0 a0_1 l0_2)) else (spec_MapSeries.j0 k a1 l2 true a0_0 a0_1 l0_2)) = some (r1, r2, r3, r4) := H
      have A12 := Aside0.mk A120
      clear A120
      by_cases c13 : t274 = true
      · subst c13
        have H1 : ((spec_l01Sizes.f a1 a0_1).bind fun t275 => (spec_MapSeries.j0 k a1 l2 (!t275) a0_0 a0_1 l0_2)) = some (r1, r2, r3, r4) := by rw [if_pos rfl] at H; exact H
        clear H
        have H := H1
        clear H1
        replace H := Option.bind_eq_some_iff.mp H
        obtain ⟨t275, A140, H⟩ := H
        replace H : (spec_MapSeries.j0 k a1 l2 (!t275) a0_0 a0_1 l0_2) = some (r1, r2, r3, r4) := H
        have A14 := Aside0.mk A140
        clear A140
        have H' := Aside0.mk H
        clear H
        have hnb15 := NB271_272.out
        have hnc15 := NB272_271.out
        obtain ⟨hcz16_0, hcz16_1, hcz16_2, hfz16_0, hfz16_1, hfz16_2⟩ := zC3 BK271
        go_wp2_with (first | ((with_reducible refine gate_callee (f := 97) rfl ?_); refine goesL_ (some 20) rfl rfl Try.func97 (by kernel_rfl) rfl #[.int .i64 a0_0, .int .i64 a1, .slice A2 l2.length c2] rfl zM ?_; (with_reducible refine (spec_l07Is.calls k a0_0 a1 _ _ l2 true _ ?side1 ?side2 A12.out).mono ?_); (case side1 => repeat (first | exact (Kd.C_below HR2.out HB.out) | (with_reducible refine Kd.C_alloc ?_ _) | (with_reducible refine Kd.C_drewN ?_ _) | (with_reducible refine Kd.C_drew ?_))); (case side2 => exact HC2.out); rintro e w' ⟨rfl, ⟨nd, rfl⟩⟩; refine ⟨_, rfl, ?_⟩) | (go_at_call 98; (with_reducible refine (spec_l01Sizes.calls a1 a0_1 t275 _ A14.out).mono ?_); rintro e w' ⟨rfl, ⟨nd, rfl⟩⟩))
        go_meet
        case rel => exact ⟨_, (!t275), (by first | rfl | (simp; done) | (simp [*]; done)), H', ⟨by first | omega | exact Nat.le_refl _⟩, ⟨zK⟩, ⟨zK⟩, ⟨zB⟩⟩
      · replace c13 := Bool.eq_false_iff.mpr c13
        subst c13
        have H1 : (spec_MapSeries.j0 k a1 l2 true a0_0 a0_1 l0_2) = some (r1, r2, r3, r4) := by rw [if_neg (show ¬ (false = true) by decide)] at H; exact H
        clear H
        have H := H1
        clear H1
        have H' := Aside0.mk H
        clear H
        have hnb17 := NB271_272.out
        have hnc17 := NB272_271.out
        obtain ⟨hcz18_0, hcz18_1, hcz18_2, hfz18_0, hfz18_1, hfz18_2⟩ := zC3 BK271
        go_wp2_with (first | ((with_reducible refine gate_callee (f := 97) rfl ?_); refine goesL_ (some 20) rfl rfl Try.func97 (by kernel_rfl) rfl #[.int .i64 a0_0, .int .i64 a1, .slice A2 l2.length c2] rfl zM ?_; (with_reducible refine (spec_l07Is.calls k a0_0 a1 _ _ l2 false _ ?side1 ?side2 A12.out).mono ?_); (case side1 => repeat (first | exact (Kd.C_below HR2.out HB.out) | (with_reducible refine Kd.C_alloc ?_ _) | (with_reducible refine Kd.C_drewN ?_ _) | (with_reducible refine Kd.C_drew ?_))); (case side2 => exact HC2.out); rintro e w' ⟨rfl, ⟨nd, rfl⟩⟩; refine ⟨_, rfl, ?_⟩))
        go_meet
        case rel => exact ⟨_, (true), (by first | rfl | (simp; done) | (simp [*]; done)), H', ⟨by first | omega | exact Nat.le_refl _⟩, ⟨zK⟩, ⟨zK⟩, ⟨zB⟩⟩
    case rest =>
      clear HC6
      obtain ⟨kq, x15_5, rfl, HA, HJ5, BK271, BK272, HB⟩ := hcut
      cases kq with
      | zero => exact absurd HA.out (by simp [spec_MapSeries.j0])
      | succ kj5 =>
        have H := HA.out
        clear HA
        simp only [spec_MapSeries.j0] at H
        by_cases c19 : x15_5 = true
        · subst c19
          have H1 : (some (0, 0, ([] : List (S89)), 2)) = some (r1, r2, r3, r4) := by rw [if_pos rfl] at H; exact H
          clear H
          have H := H1
          clear H1
          simp only [Option.some.injEq, Prod.mk.injEq] at H
          obtain ⟨rfl, rfl, rfl, rfl⟩ := H
          have hnb20 := NB272_271.out
          have hnc20 := NB271_272.out
          obtain ⟨hcz21_0, hcz21_1, hcz21_2, hfz21_0, hfz21_1, hfz21_2⟩ := zC3 BK272
          go_wp2
          refine bodyPost_ret (results_ct rfl _ _ gb272 32 #[.int .i64 0, .int .i64 0, .slice none 0 0] (0, 0) _ rfl (by (with_reducible repeat (first | refine blk_drewN ?_ _ | refine blk_drew ?_ | refine blk_alloc ?_ _)); refine blk_put (cs := #[.int .i64 0, .int .i64 0, .slice none 0 0]) ?_ 2 _ rfl; (with_reducible repeat (first | refine blk_drewN ?_ _ | refine blk_drew ?_ | refine blk_alloc ?_ _)); refine blk_put (cs := #[.int .i64 0, .int .i64 0, .slice none 0 0]) ?_ 1 _ rfl; (with_reducible repeat (first | refine blk_drewN ?_ _ | refine blk_drew ?_ | refine blk_alloc ?_ _)); refine blk_put (cs := #[.int .i64 0, .int .i64 0, .slice none 0 0]) ?_ 0 _ rfl; exact zK) Try.underlying32 rfl (by kernel_rfl)) rfl ?_
          exact ⟨_, by first | rfl | (simp [errW_none, errW_some] <;> rfl) | (simp [*, errW_none, errW_some] <;> rfl), by first | exact Kd.R_nil _ _ _ _ _ | exact Kd.N_nil _ _ _ _ _ | exact Kd.V_nil _ _ _ _ _ | exact Kd.Q_nil _ _ _ _ _ | exact Kd.S_nil _ _ _ _ _, zB⟩
        · replace c19 := Bool.eq_false_iff.mpr c19
          subst c19
          have H1 : ((spec_l07Map.f kj5 a0_0 a0_1 l0_2 a1 l2).bind fun bt276 => (if bt276.2.2.2 = true then (some (bt276.1, bt276.2.1, bt276.2.2.1, 0)) else (some (0, 0, ([] : List (S89)), 3)))) = some (r1, r2, r3, r4) := by rw [if_neg (show ¬ (false = true) by decide)] at H; exact H
          clear H
          have H := H1
          clear H1
          replace H := Option.bind_eq_some_iff.mp H
          obtain ⟨⟨t276, t277, t278, t281⟩, A220, H⟩ := H
          replace H : (if t281 = true then (some (t276, t277, t278, 0)) else (some (0, 0, ([] : List (S89)), 3))) = some (r1, r2, r3, r4) := H
          have A22 := Aside0.mk A220
          clear A220
          by_cases c23 : t281 = true
          · subst c23
            have H1 : (some (t276, t277, t278, 0)) = some (r1, r2, r3, r4) := by rw [if_pos rfl] at H; exact H
            clear H
            have H := H1
            clear H1
            simp only [Option.some.injEq, Prod.mk.injEq] at H
            obtain ⟨rfl, rfl, rfl, rfl⟩ := H
            have hnb24 := NB271_272.out
            have hnc24 := NB272_271.out
            obtain ⟨hcz25_0, hcz25_1, hcz25_2, hfz25_0, hfz25_1, hfz25_2⟩ := zC3 BK271
            go_wp2_with (first | ((with_reducible refine gate_callee (f := 99) rfl ?_); refine goesL_ (some 34) rfl rfl Try.func99 (by kernel_rfl) rfl #[.agg #[.int .i64 a0_0, .int .i64 a0_1, .slice A0_2 l0_2.length c0_2], .int .i64 a1, .slice A2 l2.length c2] rfl zM ?_; (with_reducible refine (spec_l07Map.calls kj5 a0_0 a0_1 _ _ l0_2 a1 _ _ l2 t276 t277 t278 true _ ?side1 ?side2 ?side3 ?side4 A22.out).mono ?_); (case side1 => repeat (first | exact (Kd.C_below HR0_2.out HB.out) | (with_reducible refine Kd.C_alloc ?_ _) | (with_reducible refine Kd.C_drewN ?_ _) | (with_reducible refine Kd.C_drew ?_))); (case side2 => exact HC0_2.out); (case side3 => repeat (first | exact (Kd.C_below HR2.out HB.out) | (with_reducible refine Kd.C_alloc ?_ _) | (with_reducible refine Kd.C_drewN ?_ _) | (with_reducible refine Kd.C_drew ?_))); (case side4 => exact HC2.out); rintro e w26 ⟨v279, rfl, ho0, hb⟩; refine ⟨_, rfl, ?_⟩; have HO280 := Aside0.mk (Kd.R_lower ho0 (below_size zB)); replace BK271 := Aside0.mk (zW BK271 hb); replace BK272 := Aside0.mk (zW BK272 hb); replace HB := Aside0.mk (below_step zB hb); (try clear hb); (try clear hb2); (try clear hk); (try clear hi); (try clear ho0)) | ((with_reducible refine gate_dst (N := 8) rfl ?_); refine zX 8 (#[.int .i64 0, .int .i64 0, .slice none 0 0]) 32 ?_; intro gb282 hg w27 hbox hb; have BK282 := Aside0.mk (hbox); have GW282 := Aside0.mk (zG : w.heap.size ≤ gb282); have GE282 := Aside0.mk (zG : w.heap.size ≤ gb282); have NB271_282 := Aside0.mk (zU BK271 hg); have NB282_271 := Aside0.mk (zV BK271 hg); have NB272_282 := Aside0.mk (zU BK272 hg); have NB282_272 := Aside0.mk (zV BK272 hg); replace HO280 := Aside0.mk (Kd.R_below HO280.out hb); replace BK271 := Aside0.mk (zW BK271 hb); replace BK272 := Aside0.mk (zW BK272 hb); replace HB := Aside0.mk (below_step zB hb); clear hb hbox hg; have hnb28 := NB282_271.out; have hnc28 := NB271_282.out; have hnb29 := NB282_272.out; have hnc29 := NB272_282.out; obtain ⟨hcz30_0, hcz30_1, hcz30_2, hfz30_0, hfz30_1, hfz30_2⟩ := zC3 BK282; obtain ⟨Ao31, co31, eo31⟩ := Kd.R_slice HO280.out; subst eo31; obtain ⟨hcz32_0, hcz32_1, hcz32_2, hfz32_0, hfz32_1, hfz32_2⟩ := zC3 BK272))
            refine bodyPost_ret (results_ct rfl _ _ gb272 32 #[.int .i64 t276, .int .i64 t277, .slice Ao31 t278.length co31] (0, 0) _ rfl (by (with_reducible repeat (first | refine blk_drewN ?_ _ | refine blk_drew ?_ | refine blk_alloc ?_ _)); refine blk_put (cs := #[.int .i64 t276, .int .i64 t277, .slice none 0 0]) ?_ 2 _ rfl; (with_reducible repeat (first | refine blk_drewN ?_ _ | refine blk_drew ?_ | refine blk_alloc ?_ _)); refine blk_put (cs := #[.int .i64 t276, .int .i64 0, .slice none 0 0]) ?_ 1 _ rfl; (with_reducible repeat (first | refine blk_drewN ?_ _ | refine blk_drew ?_ | refine blk_alloc ?_ _)); refine blk_put (cs := #[.int .i64 0, .int .i64 0, .slice none 0 0]) ?_ 0 _ rfl; (with_reducible repeat (first | refine blk_drewN ?_ _ | refine blk_drew ?_ | refine blk_alloc ?_ _)); refine blk_far ?_ NB272_282.out _; (with_reducible repeat (first | refine blk_drewN ?_ _ | refine blk_drew ?_ | refine blk_alloc ?_ _)); refine blk_far ?_ NB272_282.out _; (with_reducible repeat (first | refine blk_drewN ?_ _ | refine blk_drew ?_ | refine blk_alloc ?_ _)); refine blk_far ?_ NB272_282.out _; exact zK) Try.underlying32 rfl (by kernel_rfl)) rfl ?_
            exact ⟨_, by first | rfl | (simp [errW_none, errW_some] <;> rfl) | (simp [*, errW_none, errW_some] <;> rfl), by (with_reducible repeat (first | apply Kd.R_alloc | apply Kd.R_drewN | apply Kd.R_drew)); exact Kd.R_mono (Kd.R_far (p := ⟨gb272, 2, none⟩) (Kd.R_far (p := ⟨gb272, 1, none⟩) (Kd.R_far (p := ⟨gb272, 0, none⟩) (Kd.R_far (p := ⟨gb282, 2, none⟩) (Kd.R_far (p := ⟨gb282, 1, none⟩) (Kd.R_far (p := ⟨gb282, 0, none⟩) (Kd.R_types (Kd.R_types HO280.out BK282.out (by decide)) BK272.out (by decide)) (fun _ hk => hk.1.2) (.int .i64 t276)) (fun _ hk => hk.1.2) (.int .i64 t277)) (fun _ hk => hk.1.2) (.slice Ao31 t278.length co31)) (fun _ hk => hk.2) (.int .i64 t276)) (fun _ hk => hk.2) (.int .i64 t277)) (fun _ hk => hk.2) (.slice Ao31 t278.length co31)) (fun _ hk => trivial), zB⟩
          · replace c23 := Bool.eq_false_iff.mpr c23
            subst c23
            have H1 : (some (0, 0, ([] : List (S89)), 3)) = some (r1, r2, r3, r4) := by rw [if_neg (show ¬ (false = true) by decide)] at H; exact H
            clear H
            have H := H1
            clear H1
            simp only [Option.some.injEq, Prod.mk.injEq] at H
            obtain ⟨rfl, rfl, rfl, rfl⟩ := H
            have hnb33 := NB271_272.out
            have hnc33 := NB272_271.out
            obtain ⟨hcz34_0, hcz34_1, hcz34_2, hfz34_0, hfz34_1, hfz34_2⟩ := zC3 BK271
            go_wp2_with (first | ((with_reducible refine gate_callee (f := 99) rfl ?_); refine goesL_ (some 34) rfl rfl Try.func99 (by kernel_rfl) rfl #[.agg #[.int .i64 a0_0, .int .i64 a0_1, .slice A0_2 l0_2.length c0_2], .int .i64 a1, .slice A2 l2.length c2] rfl zM ?_; (with_reducible refine (spec_l07Map.calls kj5 a0_0 a0_1 _ _ l0_2 a1 _ _ l2 t276 t277 t278 false _ ?side1 ?side2 ?side3 ?side4 A22.out).mono ?_); (case side1 => repeat (first | exact (Kd.C_below HR0_2.out HB.out) | (with_reducible refine Kd.C_alloc ?_ _) | (with_reducible refine Kd.C_drewN ?_ _) | (with_reducible refine Kd.C_drew ?_))); (case side2 => exact HC0_2.out); (case side3 => repeat (first | exact (Kd.C_below HR2.out HB.out) | (with_reducible refine Kd.C_alloc ?_ _) | (with_reducible refine Kd.C_drewN ?_ _) | (with_reducible refine Kd.C_drew ?_))); (case side4 => exact HC2.out); rintro e w35 ⟨v279, rfl, ho0, hb⟩; refine ⟨_, rfl, ?_⟩; have HO280 := Aside0.mk (Kd.R_lower ho0 (below_size zB)); replace BK271 := Aside0.mk (zW BK271 hb); replace BK272 := Aside0.mk (zW BK272 hb); replace HB := Aside0.mk (below_step zB hb); (try clear hb); (try clear hb2); (try clear hk); (try clear hi); (try clear ho0)) | ((with_reducible refine gate_dst (N := 8) rfl ?_); refine zX 8 (#[.int .i64 0, .int .i64 0, .slice none 0 0]) 32 ?_; intro gb282 hg w36 hbox hb; have BK282 := Aside0.mk (hbox); have GW282 := Aside0.mk (zG : w.heap.size ≤ gb282); have GE282 := Aside0.mk (zG : w.heap.size ≤ gb282); have NB271_282 := Aside0.mk (zU BK271 hg); have NB282_271 := Aside0.mk (zV BK271 hg); have NB272_282 := Aside0.mk (zU BK272 hg); have NB282_272 := Aside0.mk (zV BK272 hg); replace HO280 := Aside0.mk (Kd.R_below HO280.out hb); replace BK271 := Aside0.mk (zW BK271 hb); replace BK272 := Aside0.mk (zW BK272 hb); replace HB := Aside0.mk (below_step zB hb); clear hb hbox hg; have hnb37 := NB282_271.out; have hnc37 := NB271_282.out; have hnb38 := NB282_272.out; have hnc38 := NB272_282.out; obtain ⟨hcz39_0, hcz39_1, hcz39_2, hfz39_0, hfz39_1, hfz39_2⟩ := zC3 BK282; obtain ⟨Ao40, co40, eo40⟩ := Kd.R_slice HO280.out; subst eo40; obtain ⟨hcz41_0, hcz41_1, hcz41_2, hfz41_0, hfz41_1, hfz41_2⟩ := zC3 BK272))
            refine bodyPost_ret (results_ct rfl _ _ gb272 32 #[.int .i64 0, .int .i64 0, .slice none 0 0] (0, 0) _ rfl (by (with_reducible repeat (first | refine blk_drewN ?_ _ | refine blk_drew ?_ | refine blk_alloc ?_ _)); refine blk_put (cs := #[.int .i64 0, .int .i64 0, .slice none 0 0]) ?_ 2 _ rfl; (with_reducible repeat (first | refine blk_drewN ?_ _ | refine blk_drew ?_ | refine blk_alloc ?_ _)); refine blk_put (cs := #[.int .i64 0, .int .i64 0, .slice none 0 0]) ?_ 1 _ rfl; (with_reducible repeat (first | refine blk_drewN ?_ _ | refine blk_drew ?_ | refine blk_alloc ?_ _)); refine blk_put (cs := #[.int .i64 0, .int .i64 0, .slice none 0 0]) ?_ 0 _ rfl; (with_reducible repeat (first | refine blk_drewN ?_ _ | refine blk_drew ?_ | refine blk_alloc ?_ _)); refine blk_far ?_ NB272_282.out _; (with_reducible repeat (first | refine blk_drewN ?_ _ | refine blk_drew ?_ | refine blk_alloc ?_ _)); refine blk_far ?_ NB272_282.out _; (with_reducible repeat (first | refine blk_drewN ?_ _ | refine blk_drew ?_ | refine blk_alloc ?_ _)); refine blk_far ?_ NB272_282.out _; exact zK) Try.underlying32 rfl (by kernel_rfl)) rfl ?_
            exact ⟨_, by first | rfl | (simp [errW_none, errW_some] <;> rfl) | (simp [*, errW_none, errW_some] <;> rfl), by first | exact Kd.R_nil _ _ _ _ _ | exact Kd.N_nil _ _ _ _ _ | exact Kd.V_nil _ _ _ _ _ | exact Kd.Q_nil _ _ _ _ _ | exact Kd.S_nil _ _ _ _ _, zB⟩
  · replace c5 := Bool.eq_false_iff.mpr c5
    subst c5
    have H1 : (some (0, 0, ([] : List (S89)), 1)) = some (r1, r2, r3, r4) := by rw [if_neg (show ¬ (false = true) by decide)] at H; exact H
    clear H
    have H := H1
    clear H1
    simp only [Option.some.injEq, Prod.mk.injEq] at H
    obtain ⟨rfl, rfl, rfl, rfl⟩ := H
    go_enter Try.func48, Try.ntmps48
    go_wp2_with (first | ((with_reducible refine gate_dst (N := 3) rfl ?_); refine zX 3 (#[.int .i64 a0_0, .int .i64 a0_1, .slice A0_2 l0_2.length c0_2]) 32 ?_; intro gb271 hg w42 hbox hb; have BK271 := Aside0.mk (hbox); have GW271 := Aside0.mk (zG : w.heap.size ≤ gb271); have GE271 := Aside0.mk (zG : w.heap.size ≤ gb271); replace HB := Aside0.mk (below_step zB hb); clear hb hbox hg) | ((with_reducible refine gate_dst (N := 6) rfl ?_); refine zX 6 (#[.int .i64 0, .int .i64 0, .slice none 0 0]) 32 ?_; intro gb272 hg w43 hbox hb; have BK272 := Aside0.mk (hbox); have GW272 := Aside0.mk (zG : w.heap.size ≤ gb272); have GE272 := Aside0.mk (zG : w.heap.size ≤ gb272); have NB271_272 := Aside0.mk (zU BK271 hg); have NB272_271 := Aside0.mk (zV BK271 hg); replace BK271 := Aside0.mk (zW BK271 hb); replace HB := Aside0.mk (below_step zB hb); clear hb hbox hg; have hnb44 := NB271_272.out; have hnc44 := NB272_271.out; obtain ⟨hcz45_0, hcz45_1, hcz45_2, hfz45_0, hfz45_1, hfz45_2⟩ := zC3 BK271) | ((with_reducible refine gate_callee (f := 52) rfl ?_); refine goesL_ (some 12) rfl rfl Try.func52 (by kernel_rfl) rfl #[.agg #[.int .i64 a0_0, .int .i64 a0_1, .slice A0_2 l0_2.length c0_2]] rfl zM ?_; (with_reducible refine (spec_l01Is.calls k a0_0 a0_1 _ _ l0_2 false _ ?side1 ?side2 A4.out).mono ?_); (case side1 => repeat (first | exact (Kd.C_below HR0_2.out HB.out) | (with_reducible refine Kd.C_alloc ?_ _) | (with_reducible refine Kd.C_drewN ?_ _) | (with_reducible refine Kd.C_drew ?_))); (case side2 => exact HC0_2.out); rintro e w46 ⟨rfl, hb⟩; refine ⟨_, rfl, ?_⟩; replace BK271 := Aside0.mk (zW BK271 hb); replace BK272 := Aside0.mk (zW BK272 hb); replace HB := Aside0.mk (below_step zB hb); (try clear hb); (try clear hb2); (try clear hk); (try clear hi); obtain ⟨hcz47_0, hcz47_1, hcz47_2, hfz47_0, hfz47_1, hfz47_2⟩ := zC3 BK272))
    refine bodyPost_ret (results_ct rfl _ _ gb272 32 #[.int .i64 0, .int .i64 0, .slice none 0 0] (0, 0) _ rfl (by (with_reducible repeat (first | refine blk_drewN ?_ _ | refine blk_drew ?_ | refine blk_alloc ?_ _)); refine blk_put (cs := #[.int .i64 0, .int .i64 0, .slice none 0 0]) ?_ 2 _ rfl; (with_reducible repeat (first | refine blk_drewN ?_ _ | refine blk_drew ?_ | refine blk_alloc ?_ _)); refine blk_put (cs := #[.int .i64 0, .int .i64 0, .slice none 0 0]) ?_ 1 _ rfl; (with_reducible repeat (first | refine blk_drewN ?_ _ | refine blk_drew ?_ | refine blk_alloc ?_ _)); refine blk_put (cs := #[.int .i64 0, .int .i64 0, .slice none 0 0]) ?_ 0 _ rfl; exact zK) Try.underlying32 rfl (by kernel_rfl)) rfl ?_
    exact ⟨_, by first | rfl | (simp [errW_none, errW_some] <;> rfl) | (simp [*, errW_none, errW_some] <;> rfl), by first | exact Kd.R_nil _ _ _ _ _ | exact Kd.N_nil _ _ _ _ _ | exact Kd.V_nil _ _ _ _ _ | exact Kd.Q_nil _ _ _ _ _ | exact Kd.S_nil _ _ _ _ _, zB⟩


/-! ### spec_IsUnchanged: function 44 -/
def spec_IsUnchanged.l0 : Nat → Bool → Int → Int → Int → List (S89) → Int → Int → List (S89) → Option (Bool × Int)
  | 0, _, _, _, _, _, _, _, _ => none
  | k + 1, x8, x9, x284000, x284001, x284002, x291000, x291001, x291002 => if x9 < (x284002.length : Int) then (if x8 = true then (if 0 ≤ x9 then (if x9 < (x291002.length : Int) then (spec_IsUnchanged.l0 k ((((rd_T89 x291002 x9).f0).toList) == (((rd_T89 x284002 x9).f0).toList) && ((((rd_T89 x291002 x9).f1.f0) == ((rd_T89 x284002 x9).f1.f0) && (((rd_T89 x291002 x9).f1.f1) == ((rd_T89 x284002 x9).f1.f1))))) (wrap64 (x9 + 1)) x284000 x284001 x284002 x291000 x291001 x291002) else (none)) else (none)) else (some (x8, 0))) else (some (x8, 0))
def spec_IsUnchanged.f (k : Nat) (a0_0 : Int) (a0_1 : Int) (l0_2 : List (S89)) (l1 : List (List Int)) : Option (Bool × Int) := (spec_MapSeries.f k a0_0 a0_1 l0_2 a0_0 l1).bind fun bt284 => (if bt284.2.2.2 = 0 then (spec_IsUnchanged.l0 k ((bt284.2.2.1.length : Int) == (l0_2.length : Int)) 0 a0_0 a0_1 l0_2 bt284.1 bt284.2.1 bt284.2.2.1) else (some (false, bt284.2.2.2)))
theorem spec_IsUnchanged.mono_l : ∀ k, (∀ y0 y1 y2 y3 y4 y5 y6 y7, LeO (spec_IsUnchanged.l0 k y0 y1 y2 y3 y4 y5 y6 y7) (spec_IsUnchanged.l0 (k + 1) y0 y1 y2 y3 y4 y5 y6 y7))
  | 0 => fun _ _ _ _ _ _ _ _ r h => by simp [spec_IsUnchanged.l0] at h
  | k + 1 => by
    have ih0 := spec_IsUnchanged.mono_l k
    · intro y0 y1 y2 y3 y4 y5 y6 y7
      unfold spec_IsUnchanged.l0
      repeat' first
      | (with_reducible exact ih0 _ _ _ _ _ _ _ _)
      | (with_reducible exact spec_MapSeries.mono _ _ _ _ _ _)
      | (with_reducible exact LeO.refl _)
      | (with_reducible exact LeO.none _)
      | (with_reducible refine LeO.ite ?_ ?_)
      | (with_reducible refine LeO.bind ?_ (fun _ => ?_))
theorem spec_IsUnchanged.mono : ∀ a0 a1 a2 a3 k, LeO (spec_IsUnchanged.f k a0 a1 a2 a3) (spec_IsUnchanged.f (k + 1) a0 a1 a2 a3) := by
  intro a0 a1 a2 a3 k
  have ih0 := spec_IsUnchanged.mono_l k
  unfold spec_IsUnchanged.f
  repeat' first
      | (with_reducible exact ih0 _ _ _ _ _ _ _ _)
      | (with_reducible exact spec_MapSeries.mono _ _ _ _ _ _)
      | (with_reducible exact LeO.refl _)
      | (with_reducible exact LeO.none _)
      | (with_reducible refine LeO.ite ?_ ?_)
      | (with_reducible refine LeO.bind ?_ (fun _ => ?_))
set_option maxHeartbeats 8000000 in
set_option maxRecDepth 100000 in
theorem spec_IsUnchanged.calls (k : Nat) (a0_0 : Int) (a0_1 : Int) (A0_2 : Option Addr) (c0_2 : Nat) (l0_2 : List (S89)) (A1 : Option Addr) (c1 : Nat) (l1 : List (List Int)) (r1 : Bool) (r2 : Int) (w : World) (hr0_2 : Kd.C k89 w A0_2 l0_2.length l0_2) (hc0_2 : l0_2.length ≤ c0_2) (hr1 : Kd.C (Kd.slice 2 (Kd.int .i64)) w A1 l1.length l1) (hc1 : l1.length ≤ c1) (h : spec_IsUnchanged.f k a0_0 a0_1 l0_2 l1 = some (r1, r2)) :
    Calls Try.prog 44 #[.agg #[.int .i64 a0_0, .int .i64 a0_1, .slice A0_2 l0_2.length c0_2], .slice A1 l1.length c1] w fun e w' => e = .returned (.tuple #[.bool r1, .int .i64 r2]) ∧ Below w.heap.size w w' := by
  have hu32 := Try.underlying32
  have hu89 := Try.underlying89
  have HR0_2 := Aside0.mk hr0_2
  have HC0_2 := Aside0.mk hc0_2
  clear hr0_2 hc0_2
  have HR1 := Aside0.mk hr1
  have HC1 := Aside0.mk hc1
  clear hr1 hc1
  have HB := Aside0.mk (Below.refl w.heap.size w)
  have H : ((spec_MapSeries.f k a0_0 a0_1 l0_2 a0_0 l1).bind fun bt284 => (if bt284.2.2.2 = 0 then (spec_IsUnchanged.l0 k ((bt284.2.2.1.length : Int) == (l0_2.length : Int)) 0 a0_0 a0_1 l0_2 bt284.1 bt284.2.1 bt284.2.2.1) else (some (false, bt284.2.2.2)))) = some (r1, r2) := h
  clear h
  replace H := Option.bind_eq_some_iff.mp H
  obtain ⟨⟨t284, t285, t286, t289⟩, A30, H⟩ := H
  replace H : (if t289 = 0 then (spec_IsUnchanged.l0 k ((t286.length : Int) == (l0_2.length : Int)) 0 a0_0 a0_1 l0_2 t284 t285 t286) else (some (false, t289))) = some (r1, r2) := H
  have A3 := Aside0.mk A30
  clear A30
  by_cases c4 : t289 = 0
  · rw [if_pos c4] at H
    have c4b0 : (t289 == 0) = true := beq_iff_eq.mpr c4
    have c4b1 : (t289 != 0) = false := bne_eq_false_iff_eq.mpr c4
    clear c4
    have H' := Aside0.mk H
    clear H
    go_enter Try.func44, Try.ntmps44
    go_wp2_with (first | ((with_reducible refine gate_dst (N := 2) rfl ?_); refine zX 2 (#[.int .i64 a0_0, .int .i64 a0_1, .slice A0_2 l0_2.length c0_2]) 32 ?_; intro gb283 hg w5 hbox hb; have BK283 := Aside0.mk (hbox); have GW283 := Aside0.mk (zG : w.heap.size ≤ gb283); have GE283 := Aside0.mk (zG : w.heap.size ≤ gb283); replace HB := Aside0.mk (below_step zB hb); clear hb hbox hg; obtain ⟨hcz6_0, hcz6_1, hcz6_2, hfz6_0, hfz6_1, hfz6_2⟩ := zC3 BK283) | (go_at_call 48; (with_reducible refine (spec_MapSeries.calls k a0_0 a0_1 _ _ l0_2 a0_0 _ _ l1 t284 t285 t286 t289 _ ?side1 ?side2 ?side3 ?side4 A3.out).mono ?_); (case side1 => repeat (first | exact (Kd.C_below HR0_2.out HB.out) | (with_reducible refine Kd.C_alloc ?_ _) | (with_reducible refine Kd.C_drewN ?_ _) | (with_reducible refine Kd.C_drew ?_))); (case side2 => exact HC0_2.out); (case side3 => repeat (first | exact (Kd.C_below HR1.out HB.out) | (with_reducible refine Kd.C_alloc ?_ _) | (with_reducible refine Kd.C_drewN ?_ _) | (with_reducible refine Kd.C_drew ?_))); (case side4 => exact HC1.out); rintro e w7 ⟨v287, rfl, ho0, hb⟩; have HO288 := Aside0.mk (Kd.R_lower ho0 (below_size zB)); replace BK283 := Aside0.mk (zW BK283 hb); replace HB := Aside0.mk (below_step zB hb); (try clear hb); (try clear hb2); (try clear hk); (try clear hi); (try clear ho0)) | ((with_reducible refine gate_dst (N := 6) rfl ?_); refine zX 6 (#[.int .i64 0, .int .i64 0, .slice none 0 0]) 32 ?_; intro gb290 hg w8 hbox hb; have BK290 := Aside0.mk (hbox); have GW290 := Aside0.mk (zG : w.heap.size ≤ gb290); have GE290 := Aside0.mk (zG : w.heap.size ≤ gb290); have NB283_290 := Aside0.mk (zU BK283 hg); have NB290_283 := Aside0.mk (zV BK283 hg); replace HO288 := Aside0.mk (Kd.R_below HO288.out hb); replace BK283 := Aside0.mk (zW BK283 hb); replace HB := Aside0.mk (below_step zB hb); clear hb hbox hg; have hnb9 := NB290_283.out; have hnc9 := NB283_290.out; obtain ⟨hcz10_0, hcz10_1, hcz10_2, hfz10_0, hfz10_1, hfz10_2⟩ := zC3 BK290; obtain ⟨Ao11, co11, eo11⟩ := Kd.R_slice HO288.out; subst eo11; obtain ⟨hcz12_0, hcz12_1, hcz12_2, hfz12_0, hfz12_1, hfz12_2⟩ := zC3 BK283))
    repeat (go_quiet (first | ((with_reducible refine gate_dst (N := 2) rfl ?_); refine zX 2 (#[.int .i64 a0_0, .int .i64 a0_1, .slice A0_2 l0_2.length c0_2]) 32 ?_; intro gb283 hg w5 hbox hb; have BK283 := Aside0.mk (hbox); have GW283 := Aside0.mk (zG : w.heap.size ≤ gb283); have GE283 := Aside0.mk (zG : w.heap.size ≤ gb283); replace HB := Aside0.mk (below_step zB hb); clear hb hbox hg; obtain ⟨hcz6_0, hcz6_1, hcz6_2, hfz6_0, hfz6_1, hfz6_2⟩ := zC3 BK283) | (go_at_call 48; (with_reducible refine (spec_MapSeries.calls k a0_0 a0_1 _ _ l0_2 a0_0 _ _ l1 t284 t285 t286 t289 _ ?side1 ?side2 ?side3 ?side4 A3.out).mono ?_); (case side1 => repeat (first | exact (Kd.C_below HR0_2.out HB.out) | (with_reducible refine Kd.C_alloc ?_ _) | (with_reducible refine Kd.C_drewN ?_ _) | (with_reducible refine Kd.C_drew ?_))); (case side2 => exact HC0_2.out); (case side3 => repeat (first | exact (Kd.C_below HR1.out HB.out) | (with_reducible refine Kd.C_alloc ?_ _) | (with_reducible refine Kd.C_drewN ?_ _) | (with_reducible refine Kd.C_drew ?_))); (case side4 => exact HC1.out); rintro e w7 ⟨v287, rfl, ho0, hb⟩; have HO288 := Aside0.mk (Kd.R_lower ho0 (below_size zB)); replace BK283 := Aside0.mk (zW BK283 hb); replace HB := Aside0.mk (below_step zB hb); (try clear hb); (try clear hb2); (try clear hk); (try clear hi); (try clear ho0)) | ((with_reducible refine gate_dst (N := 6) rfl ?_); refine zX 6 (#[.int .i64 0, .int .i64 0, .slice none 0 0]) 32 ?_; intro gb290 hg w8 hbox hb; have BK290 := Aside0.mk (hbox); have GW290 := Aside0.mk (zG : w.heap.size ≤ gb290); have GE290 := Aside0.mk (zG : w.heap.size ≤ gb290); have NB283_290 := Aside0.mk (zU BK283 hg); have NB290_283 := Aside0.mk (zV BK283 hg); replace HO288 := Aside0.mk (Kd.R_below HO288.out hb); replace BK283 := Aside0.mk (zW BK283 hb); replace HB := Aside0.mk (below_step zB hb); clear hb hbox hg; have hnb9 := NB290_283.out; have hnc9 := NB283_290.out; obtain ⟨hcz10_0, hcz10_1, hcz10_2, hfz10_0, hfz10_1, hfz10_2⟩ := zC3 BK290; obtain ⟨Ao11, co11, eo11⟩ := Kd.R_slice HO288.out; subst eo11; obtain ⟨hcz12_0, hcz12_1, hcz12_2, hfz12_0, hfz12_1, hfz12_2⟩ := zC3 BK283)); try go_wp2_with (first | ((with_reducible refine gate_dst (N := 2) rfl ?_); refine zX 2 (#[.int .i64 a0_0, .int .i64 a0_1, .slice A0_2 l0_2.length c0_2]) 32 ?_; intro gb283 hg w5 hbox hb; have BK283 := Aside0.mk (hbox); have GW283 := Aside0.mk (zG : w.heap.size ≤ gb283); have GE283 := Aside0.mk (zG : w.heap.size ≤ gb283); replace HB := Aside0.mk (below_step zB hb); clear hb hbox hg; obtain ⟨hcz6_0, hcz6_1, hcz6_2, hfz6_0, hfz6_1, hfz6_2⟩ := zC3 BK283) | (go_at_call 48; (with_reducible refine (spec_MapSeries.calls k a0_0 a0_1 _ _ l0_2 a0_0 _ _ l1 t284 t285 t286 t289 _ ?side1 ?side2 ?side3 ?side4 A3.out).mono ?_); (case side1 => repeat (first | exact (Kd.C_below HR0_2.out HB.out) | (with_reducible refine Kd.C_alloc ?_ _) | (with_reducible refine Kd.C_drewN ?_ _) | (with_reducible refine Kd.C_drew ?_))); (case side2 => exact HC0_2.out); (case side3 => repeat (first | exact (Kd.C_below HR1.out HB.out) | (with_reducible refine Kd.C_alloc ?_ _) | (with_reducible refine Kd.C_drewN ?_ _) | (with_reducible refine Kd.C_drew ?_))); (case side4 => exact HC1.out); rintro e w7 ⟨v287, rfl, ho0, hb⟩; have HO288 := Aside0.mk (Kd.R_lower ho0 (below_size zB)); replace BK283 := Aside0.mk (zW BK283 hb); replace HB := Aside0.mk (below_step zB hb); (try clear hb); (try clear hb2); (try clear hk); (try clear hi); (try clear ho0)) | ((with_reducible refine gate_dst (N := 6) rfl ?_); refine zX 6 (#[.int .i64 0, .int .i64 0, .slice none 0 0]) 32 ?_; intro gb290 hg w8 hbox hb; have BK290 := Aside0.mk (hbox); have GW290 := Aside0.mk (zG : w.heap.size ≤ gb290); have GE290 := Aside0.mk (zG : w.heap.size ≤ gb290); have NB283_290 := Aside0.mk (zU BK283 hg); have NB290_283 := Aside0.mk (zV BK283 hg); replace HO288 := Aside0.mk (Kd.R_below HO288.out hb); replace BK283 := Aside0.mk (zW BK283 hb); replace HB := Aside0.mk (below_step zB hb); clear hb hbox hg; have hnb9 := NB290_283.out; have hnc9 := NB283_290.out; obtain ⟨hcz10_0, hcz10_1, hcz10_2, hfz10_0, hfz10_1, hfz10_2⟩ := zC3 BK290; obtain ⟨Ao11, co11, eo11⟩ := Kd.R_slice HO288.out; subst eo11; obtain ⟨hcz12_0, hcz12_1, hcz12_2, hfz12_0, hfz12_1, hfz12_2⟩ := zC3 BK283)))
    go_loopg [8, 9] k (fun kq v8 v9 w' => ∃ (x8_1 : Bool) (x9_1 : Int), v8 = .bool x8_1 ∧ v9 = .int .i64 x9_1 ∧ Aside0 (spec_IsUnchanged.l0 kq x8_1 x9_1 a0_0 a0_1 l0_2 t284 t285 t286 = some (r1, r2)) ∧ Aside0 (kq ≤ k) ∧ Aside0 (Kd.R k89 89 w' w.heap.size (fun _ => True) (.slice Ao11 t286.length co11) t286) ∧ Aside0 (w'.heap[gb283]? = some (.cells #[.int .i64 a0_0, .int .i64 a0_1, (.slice A0_2 l0_2.length c0_2)] 32 (0, 0))) ∧ Aside0 (w'.heap[gb290]? = some (.cells #[.int .i64 t284, .int .i64 t285, (.slice Ao11 t286.length co11)] 32 (0, 0))) ∧ Aside0 (Below w.heap.size w w'))
    case atStart => exact ⟨(((t286.length : Int) == (l0_2.length : Int))), (0), (by first | rfl | (simp; done) | (simp [*]; done)), (by first | rfl | (simp; done) | (simp [*]; done)), H', ⟨Nat.le_refl _⟩, ⟨by (with_reducible repeat (first | apply Kd.R_alloc | apply Kd.R_drewN | apply Kd.R_drew)); exact Kd.R_mono (Kd.R_far (p := ⟨gb290, 2, none⟩) (Kd.R_far (p := ⟨gb290, 1, none⟩) (Kd.R_far (p := ⟨gb290, 0, none⟩) (Kd.R_types HO288.out BK290.out (by decide)) (fun _ hk => hk.2) (.int .i64 t284)) (fun _ hk => hk.2) (.int .i64 t285)) (fun _ hk => hk.2) (.slice Ao11 t286.length co11)) (fun _ hk => trivial)⟩, ⟨by (with_reducible repeat (first | refine blk_drewN ?_ _ | refine blk_drew ?_ | refine blk_alloc ?_ _)); refine blk_far ?_ NB283_290.out _; (with_reducible repeat (first | refine blk_drewN ?_ _ | refine blk_drew ?_ | refine blk_alloc ?_ _)); refine blk_far ?_ NB283_290.out _; (with_reducible repeat (first | refine blk_drewN ?_ _ | refine blk_drew ?_ | refine blk_alloc ?_ _)); refine blk_far ?_ NB283_290.out _; (with_reducible repeat (first | refine blk_drewN ?_ _ | refine blk_drew ?_ | refine blk_alloc ?_ _)); exact BK283.out⟩, ⟨by (with_reducible repeat (first | refine blk_drewN ?_ _ | refine blk_drew ?_ | refine blk_alloc ?_ _)); refine blk_put (cs := #[.int .i64 t284, .int .i64 t285, .slice none 0 0]) ?_ 2 _ rfl; (with_reducible repeat (first | refine blk_drewN ?_ _ | refine blk_drew ?_ | refine blk_alloc ?_ _)); refine blk_put (cs := #[.int .i64 t284, .int .i64 0, .slice none 0 0]) ?_ 1 _ rfl; (with_reducible repeat (first | refine blk_drewN ?_ _ | refine blk_drew ?_ | refine blk_alloc ?_ _)); refine blk_put (cs := #[.int .i64 0, .int .i64 0, .slice none 0 0]) ?_ 0 _ rfl; (with_reducible repeat (first | refine blk_drewN ?_ _ | refine blk_drew ?_ | refine blk_alloc ?_ _)); exact BK290.out⟩, ⟨zB⟩⟩
    case round =>
      clear H'
      obtain ⟨x8_1, x9_1, rfl, rfl, HA, HK1, HO_291002, BK283, BK290, HB⟩ := hrel
      cases gk with
      | zero => exact absurd HA.out (by simp [spec_IsUnchanged.l0])
      | succ k1 =>
        have H := HA.out
        clear HA
        simp only [spec_IsUnchanged.l0] at H
        by_cases c13 : x9_1 < (l0_2.length : Int)
        · rw [if_pos c13] at H
          have c13b0 : decide (x9_1 < (l0_2.length : Int)) = true := decide_eq_true c13
          clear c13
          by_cases c14 : x8_1 = true
          · subst c14
            have H1 : (if 0 ≤ x9_1 then (if x9_1 < (t286.length : Int) then (spec_IsUnchanged.l0 k1 ((((rd_T89 t286 x9_1).f0).toList) == (((rd_T89 l0_2 x9_1).f0).toList) && ((((rd_T89 t286 x9_1).f1.f0) == ((rd_T89 l0_2 x9_1).f1.f0) && (((rd_T89 t286 x9_1).f1.f1) == ((rd_T89 l0_2 x9_1).f1.f1))))) (wrap64 (x9_1 + 1)) a0_0 a0_1 l0_2 t284 t285 t286) else (none)) else (none)) = some (r1, r2) := by rw [if_pos rfl] at H; exact H
            clear H
            have H := H1
            clear H1
            by_cases c15 : 0 ≤ x9_1
            ·rw [if_pos c15] at H
             have c15b0 : decide (0 ≤ x9_1) = true := decide_eq_true c15
             clear c15
             by_cases c16 : x9_1 < (t286.length : Int)
             ·rw [if_pos c16] at H
              have c16b0 : decide (x9_1 < (t286.length : Int)) = true := decide_eq_true c16
              clear c16
              have H' := Aside0.mk H
              clear H
              have hnb17 := NB283_290.out
              have hnc17 := NB290_283.out
              obtain ⟨hcz18_0, hcz18_1, hcz18_2, hfz18_0, hfz18_1, hfz18_2⟩ := zC3 BK283
              obtain ⟨hcz19_0, hcz19_1, hcz19_2, hfz19_0, hfz19_1, hfz19_2⟩ := zC3 BK290
              have p291 : 0 ≤ (x9_1 : Int) := zD
              have q291 : x9_1 < (t286.length : Int) := zD
              obtain ⟨ad291, e291, hx291_0, hx291_1, hx291_2⟩ := at_T89 (Kd.R_reads' HO_291002.out).2.2 x9_1 p291 q291
              cases e291
              replace p291 := eq_true p291
              replace q291 := eq_true q291
              have p292 : 0 ≤ (x9_1 : Int) := zD
              have q292 : x9_1 < (l0_2.length : Int) := zD
              obtain ⟨ad292, e292, hx292_0, hx292_1, hx292_2⟩ := at_T89 HR0_2.out x9_1 p292 q292
              cases e292
              replace hx292_0 := zH HB hx292_0
              replace hx292_1 := zH HB hx292_1
              replace hx292_2 := zH HB hx292_2
              replace p292 := eq_true p292
              replace q292 := eq_true q292
              go_wp2
              repeat (go_quiet (fail); try go_wp2)
              go_roundg k1
              case measure => have := HK1.out; omega
              case rel => exact ⟨(((((rd_T89 t286 x9_1).f0).toList) == (((rd_T89 l0_2 x9_1).f0).toList) && ((((rd_T89 t286 x9_1).f1.f0) == ((rd_T89 l0_2 x9_1).f1.f0) && (((rd_T89 t286 x9_1).f1.f1) == ((rd_T89 l0_2 x9_1).f1.f1)))))), (wrap64 (x9_1 + 1)), (by first | rfl | (simp; done) | (simp [*]; done)), (by first | rfl | (simp; done) | (simp [*]; done)), H', ⟨by have := HK1.out; omega⟩, ⟨zR⟩, ⟨zK⟩, ⟨zK⟩, ⟨zB⟩⟩
             ·rw [if_neg c16] at H
              exact absurd H (by simp)
            ·rw [if_neg c15] at H
             exact absurd H (by simp)
          · replace c14 := Bool.eq_false_iff.mpr c14
            subst c14
            have H1 : (some (false, 0)) = some (r1, r2) := by rw [if_neg (show ¬ (false = true) by decide)] at H; exact H
            clear H
            have H := H1
            clear H1
            simp only [Option.some.injEq, Prod.mk.injEq] at H
            obtain ⟨rfl, rfl⟩ := H
            have hnb20 := NB283_290.out
            have hnc20 := NB290_283.out
            obtain ⟨hcz21_0, hcz21_1, hcz21_2, hfz21_0, hfz21_1, hfz21_2⟩ := zC3 BK283
            go_wp2
            repeat (go_quiet (fail); try go_wp2)
            go_ret2
            exact ⟨by first | rfl | (simp [errW_none, errW_some] <;> rfl) | (simp [*, errW_none, errW_some] <;> rfl), zB⟩
        · rw [if_neg c13] at H
          have c13b0 : decide (x9_1 < (l0_2.length : Int)) = false := decide_eq_false c13
          clear c13
          simp only [Option.some.injEq, Prod.mk.injEq] at H
          obtain ⟨rfl, rfl⟩ := H
          have hnb22 := NB283_290.out
          have hnc22 := NB290_283.out
          obtain ⟨hcz23_0, hcz23_1, hcz23_2, hfz23_0, hfz23_1, hfz23_2⟩ := zC3 BK283
          go_wp2
          repeat (go_quiet (fail); try go_wp2)
          go_ret2
          exact ⟨by first | rfl | (simp [errW_none, errW_some] <;> rfl) | (simp [*, errW_none, errW_some] <;> rfl), zB⟩
  · rw [if_neg c4] at H
    have c4b0 : (t289 == 0) = false := beq_eq_false_iff_ne.mpr c4
    have c4b1 : (t289 != 0) = true := bne_iff_ne.mpr c4
    simp only [Option.some.injEq, Prod.mk.injEq] at H
    obtain ⟨rfl, rfl⟩ := H
    go_enter Try.func44, Try.ntmps44
    go_wp2_with (first | ((with_reducible refine gate_dst (N := 2) rfl ?_); refine zX 2 (#[.int .i64 a0_0, .int .i64 a0_1, .slice A0_2 l0_2.length c0_2]) 32 ?_; intro gb283 hg w24 hbox hb; have BK283 := Aside0.mk (hbox); have GW283 := Aside0.mk (zG : w.heap.size ≤ gb283); have GE283 := Aside0.mk (zG : w.heap.size ≤ gb283); replace HB := Aside0.mk (below_step zB hb); clear hb hbox hg; obtain ⟨hcz25_0, hcz25_1, hcz25_2, hfz25_0, hfz25_1, hfz25_2⟩ := zC3 BK283) | (go_at_call 48; (with_reducible refine (spec_MapSeries.calls k a0_0 a0_1 _ _ l0_2 a0_0 _ _ l1 t284 t285 t286 t289 _ ?side1 ?side2 ?side3 ?side4 A3.out).mono ?_); (case side1 => repeat (first | exact (Kd.C_below HR0_2.out HB.out) | (with_reducible refine Kd.C_alloc ?_ _) | (with_reducible refine Kd.C_drewN ?_ _) | (with_reducible refine Kd.C_drew ?_))); (case side2 => exact HC0_2.out); (case side3 => repeat (first | exact (Kd.C_below HR1.out HB.out) | (with_reducible refine Kd.C_alloc ?_ _) | (with_reducible refine Kd.C_drewN ?_ _) | (with_reducible refine Kd.C_drew ?_))); (case side4 => exact HC1.out); rintro e w26 ⟨v287, rfl, ho0, hb⟩; have HO288 := Aside0.mk (Kd.R_lower ho0 (below_size zB)); replace BK283 := Aside0.mk (zW BK283 hb); replace HB := Aside0.mk (below_step zB hb); (try clear hb); (try clear hb2); (try clear hk); (try clear hi); (try clear ho0)) | ((with_reducible refine gate_dst (N := 6) rfl ?_); refine zX 6 (#[.int .i64 0, .int .i64 0, .slice none 0 0]) 32 ?_; intro gb290 hg w27 hbox hb; have BK290 := Aside0.mk (hbox); have GW290 := Aside0.mk (zG : w.heap.size ≤ gb290); have GE290 := Aside0.mk (zG : w.heap.size ≤ gb290); have NB283_290 := Aside0.mk (zU BK283 hg); have NB290_283 := Aside0.mk (zV BK283 hg); replace HO288 := Aside0.mk (Kd.R_below HO288.out hb); replace BK283 := Aside0.mk (zW BK283 hb); replace HB := Aside0.mk (below_step zB hb); clear hb hbox hg; have hnb28 := NB290_283.out; have hnc28 := NB283_290.out; obtain ⟨hcz29_0, hcz29_1, hcz29_2, hfz29_0, hfz29_1, hfz29_2⟩ := zC3 BK290; obtain ⟨Ao30, co30, eo30⟩ := Kd.R_slice HO288.out; subst eo30))
    repeat (go_quiet (first | ((with_reducible refine gate_dst (N := 2) rfl ?_); refine zX 2 (#[.int .i64 a0_0, .int .i64 a0_1, .slice A0_2 l0_2.length c0_2]) 32 ?_; intro gb283 hg w24 hbox hb; have BK283 := Aside0.mk (hbox); have GW283 := Aside0.mk (zG : w.heap.size ≤ gb283); have GE283 := Aside0.mk (zG : w.heap.size ≤ gb283); replace HB := Aside0.mk (below_step zB hb); clear hb hbox hg; obtain ⟨hcz25_0, hcz25_1, hcz25_2, hfz25_0, hfz25_1, hfz25_2⟩ := zC3 BK283) | (go_at_call 48; (with_reducible refine (spec_MapSeries.calls k a0_0 a0_1 _ _ l0_2 a0_0 _ _ l1 t284 t285 t286 t289 _ ?side1 ?side2 ?side3 ?side4 A3.out).mono ?_); (case side1 => repeat (first | exact (Kd.C_below HR0_2.out HB.out) | (with_reducible refine Kd.C_alloc ?_ _) | (with_reducible refine Kd.C_drewN ?_ _) | (with_reducible refine Kd.C_drew ?_))); (case side2 => exact HC0_2.out); (case side3 => repeat (first | exact (Kd.C_below HR1.out HB.out) | (with_reducible refine Kd.C_alloc ?_ _) | (with_reducible refine Kd.C_drewN ?_ _) | (with_reducible refine Kd.C_drew ?_))); (case side4 => exact HC1.out); rintro e w26 ⟨v287, rfl, ho0, hb⟩; have HO288 := Aside0.mk (Kd.R_lower ho0 (below_size zB)); replace BK283 := Aside0.mk (zW BK283 hb); replace HB := Aside0.mk (below_step zB hb); (try clear hb); (try clear hb2); (try clear hk); (try clear hi); (try clear ho0)) | ((with_reducible refine gate_dst (N := 6) rfl ?_); refine zX 6 (#[.int .i64 0, .int .i64 0, .slice none 0 0]) 32 ?_; intro gb290 hg w27 hbox hb; have BK290 := Aside0.mk (hbox); have GW290 := Aside0.mk (zG : w.heap.size ≤ gb290); have GE290 := Aside0.mk (zG : w.heap.size ≤ gb290); have NB283_290 := Aside0.mk (zU BK283 hg); have NB290_283 := Aside0.mk (zV BK283 hg); replace HO288 := Aside0.mk (Kd.R_below HO288.out hb); replace BK283 := Aside0.mk (zW BK283 hb); replace HB := Aside0.mk (below_step zB hb); clear hb hbox hg; have hnb28 := NB290_283.out; have hnc28 := NB283_290.out; obtain ⟨hcz29_0, hcz29_1, hcz29_2, hfz29_0, hfz29_1, hfz29_2⟩ := zC3 BK290; obtain ⟨Ao30, co30, eo30⟩ := Kd.R_slice HO288.out; subst eo30)); try go_wp2_with (first | ((with_reducible refine gate_dst (N := 2) rfl ?_); refine zX 2 (#[.int .i64 a0_0, .int .i64 a0_1, .slice A0_2 l0_2.length c0_2]) 32 ?_; intro gb283 hg w24 hbox hb; have BK283 := Aside0.mk (hbox); have GW283 := Aside0.mk (zG : w.heap.size ≤ gb283); have GE283 := Aside0.mk (zG : w.heap.size ≤ gb283); replace HB := Aside0.mk (below_step zB hb); clear hb hbox hg; obtain ⟨hcz25_0, hcz25_1, hcz25_2, hfz25_0, hfz25_1, hfz25_2⟩ := zC3 BK283) | (go_at_call 48; (with_reducible refine (spec_MapSeries.calls k a0_0 a0_1 _ _ l0_2 a0_0 _ _ l1 t284 t285 t286 t289 _ ?side1 ?side2 ?side3 ?side4 A3.out).mono ?_); (case side1 => repeat (first | exact (Kd.C_below HR0_2.out HB.out) | (with_reducible refine Kd.C_alloc ?_ _) | (with_reducible refine Kd.C_drewN ?_ _) | (with_reducible refine Kd.C_drew ?_))); (case side2 => exact HC0_2.out); (case side3 => repeat (first | exact (Kd.C_below HR1.out HB.out) | (with_reducible refine Kd.C_alloc ?_ _) | (with_reducible refine Kd.C_drewN ?_ _) | (with_reducible refine Kd.C_drew ?_))); (case side4 => exact HC1.out); rintro e w26 ⟨v287, rfl, ho0, hb⟩; have HO288 := Aside0.mk (Kd.R_lower ho0 (below_size zB)); replace BK283 := Aside0.mk (zW BK283 hb); replace HB := Aside0.mk (below_step zB hb); (try clear hb); (try clear hb2); (try clear hk); (try clear hi); (try clear ho0)) | ((with_reducible refine gate_dst (N := 6) rfl ?_); refine zX 6 (#[.int .i64 0, .int .i64 0, .slice none 0 0]) 32 ?_; intro gb290 hg w27 hbox hb; have BK290 := Aside0.mk (hbox); have GW290 := Aside0.mk (zG : w.heap.size ≤ gb290); have GE290 := Aside0.mk (zG : w.heap.size ≤ gb290); have NB283_290 := Aside0.mk (zU BK283 hg); have NB290_283 := Aside0.mk (zV BK283 hg); replace HO288 := Aside0.mk (Kd.R_below HO288.out hb); replace BK283 := Aside0.mk (zW BK283 hb); replace HB := Aside0.mk (below_step zB hb); clear hb hbox hg; have hnb28 := NB290_283.out; have hnc28 := NB283_290.out; obtain ⟨hcz29_0, hcz29_1, hcz29_2, hfz29_0, hfz29_1, hfz29_2⟩ := zC3 BK290; obtain ⟨Ao30, co30, eo30⟩ := Kd.R_slice HO288.out; subst eo30)))
    go_ret2
    exact ⟨by first | rfl | (simp [errW_none, errW_some] <;> rfl) | (simp [*, errW_none, errW_some] <;> rfl), zB⟩

end Go.Proofs.Ytcklefgkbddlhaa.P
