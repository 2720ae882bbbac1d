/- What a call of each Go function named below comes to is what the plain function beside it says. -/
import Derived.Test.YtcklefgkbddlhaaPx0
import Derived.Test.YtcklefgkbddlhaaPx4
import Derived.Test.YtcklefgkbddlhaaPx5
namespace Go.Proofs.Ytcklefgkbddlhaa.P
open Go.RowKit Go.Proofs.YtcklefgkbddlhaaW.PrintWords Go.Proofs.YtcklefgkbddlhaaW.PrintLast Go.Proofs.YtcklefgkbddlhaaW.PrintMore
attribute [local go_sem] max2_int min2_int max_two min_two max_three min_three max_four min_four
set_option linter.unusedVariables false
set_option linter.unusedSimpArgs false
/-! ### spec_l08Product: function 107 -/
def spec_l08Product.l0 : Nat → List (List (List Int)) → ByteArray → List (List Int) → Int → Option ((List (List Int)) × Bool)
  | 0, _, _, _, _ => none
  | k + 1, x0, x1, x6, x7 => if x7 < (x1.size : Int) then (if 0 ≤ x7 then (if 0 ≤ (((bt x1 x7) - 48) % 256) then (if (((bt x1 x7) - 48) % 256) < (x0.length : Int) then ((spec_l08Times.f k x6 (rd_L7 x0 (((bt x1 x7) - 48) % 256))).bind fun bt192 => (if bt192.2 = true then (spec_l08Product.l0 k x0 x1 bt192.1 (wrap64 (x7 + 1))) else (some (([] : List (List Int)), false)))) else (none)) else (none)) else (none)) else (some (x6, true))
def spec_l08Product.f (k : Nat) (l0 : List (List (List Int))) (a1 : ByteArray) : Option ((List (List Int)) × Bool) := if 0 < (l0.length : Int) then ((spec_l08Unit.f k ((rd_L7 l0 0).length : Int)).bind fun t188 => (spec_l08Product.l0 k l0 a1 t188 0)) else (none)
theorem spec_l08Product.mono_l : ∀ k, (∀ y0 y1 y2 y3, LeO (spec_l08Product.l0 k y0 y1 y2 y3) (spec_l08Product.l0 (k + 1) y0 y1 y2 y3))
  | 0 => fun _ _ _ _ r h => by simp [spec_l08Product.l0] at h
  | k + 1 => by
    have ih0 := spec_l08Product.mono_l k
    · intro y0 y1 y2 y3
      unfold spec_l08Product.l0
      repeat' first
      | (with_reducible exact ih0 _ _ _ _)
      | (with_reducible exact spec_l08Times.mono _ _ _)
      | (with_reducible exact spec_l08Unit.mono _ _)
      | (with_reducible exact LeO.refl _)
      | (with_reducible exact LeO.none _)
      | (with_reducible refine LeO.ite ?_ ?_)
      | (with_reducible refine LeO.bind ?_ (fun _ => ?_))
theorem spec_l08Product.mono : ∀ a0 a1 k, LeO (spec_l08Product.f k a0 a1) (spec_l08Product.f (k + 1) a0 a1) := by
  intro a0 a1 k
  have ih0 := spec_l08Product.mono_l k
  unfold spec_l08Product.f
  repeat' first
      | (with_reducible exact ih0 _ _ _ _)
      | (with_reducible exact spec_l08Times.mono _ _ _)
      | (with_reducible exact spec_l08Unit.mono _ _)
      | (with_reducible exact LeO.refl _)
      | (with_reducible exact LeO.none _)
      | (with_reducible refine LeO.ite ?_ ?_)
      | (with_reducible refine LeO.bind ?_ (fun _ => ?_))
set_option maxHeartbeats 8000000 in
set_option maxRecDepth 100000 in
theorem spec_l08Product.calls (k : Nat) (A0 : Option Addr) (c0 : Nat) (l0 : List (List (List Int))) (a1 : ByteArray) (r1 : List (List Int)) (r2 : Bool) (w : World) (hr0 : Kd.C (Kd.slice 48 (Kd.slice 2 (Kd.int .i64))) w A0 l0.length l0) (hc0 : l0.length ≤ c0) (h : spec_l08Product.f k l0 a1 = some (r1, r2)) :
    Calls Try.prog 107 #[.slice A0 l0.length c0, .string a1] w fun e w' => ∃ v0_ : Value, e = .returned (.tuple #[v0_, .bool r2]) ∧ Kd.S (Kd.slice 2 (Kd.int .i64)) 48 w' w.heap.size (fun _ => True) v0_ r1 ∧ Below w.heap.size w w' := by
  have HR0 := Aside0.mk hr0
  have HC0 := Aside0.mk hc0
  clear hr0 hc0
  have HB := Aside0.mk (Below.refl w.heap.size w)
  have H : (if 0 < (l0.length : Int) then ((spec_l08Unit.f k ((rd_L7 l0 0).length : Int)).bind fun t188 => (spec_l08Product.l0 k l0 a1 t188 0)) else (none)) = some (r1, r2) := h
  clear h
  by_cases c3 : 0 < (l0.length : Int)
  · rw [if_pos c3] at H
    have c3b0 : decide (0 < (l0.length : Int)) = true := decide_eq_true c3
    have c3b1 : decide (0 < l0.length) = true := decide_eq_true (by omega)
    clear c3
    replace H := Option.bind_eq_some_iff.mp H
    obtain ⟨t188, A40, H⟩ := H
    replace H : (spec_l08Product.l0 k l0 a1 t188 0) = some (r1, r2) := H
    have A4 := Aside0.mk A40
    clear A40
    have H' := Aside0.mk H
    clear H
    have p187 : 0 ≤ (0 : Int) := (by omega)
    have q187 : 0 < (l0.length : Int) := zD
    obtain ⟨ad187, A187_0, c187_0, e187, hx187_0, hl187_0, hi187_0⟩ := at_L7 HR0.out 0 p187 q187
    cases e187
    have qi187 : (0 < l0.length) = True := eq_true (by omega)
    (try rw [show ((0 : Int)).toNat = 0 from rfl] at hx187_0)
    (try rw [Addr.add_zero'] at hx187_0)
    have HR187_0 := Aside0.mk hi187_0
    have HC187_0 := Aside0.mk hl187_0
    clear hi187_0 hl187_0
    replace p187 := eq_true p187
    replace q187 := eq_true q187
    go_enter Try.func107, Try.ntmps107
    go_wp2_with (first | ((with_reducible refine gate_callee (f := 151) rfl ?_); refine goesL_ (some 14) rfl rfl Try.func151 (by kernel_rfl) rfl #[.int .i64 ((rd_L7 l0 0).length : Int)] rfl zM ?_; (with_reducible refine (spec_l08Unit.calls k ((rd_L7 l0 0).length : Int) t188 _ A4.out).mono ?_); rintro e w5 ⟨v189, rfl, ho0, hb⟩; refine ⟨_, rfl, ?_⟩; have n0_ := Aside0.mk (Kd.S_lower ho0 (below_size zB)); have n1_ := Aside0.mk (below_step zB hb); clear HB; have HO190 := n0_; have HB := n1_; clear n0_ n1_; (try clear hb); (try clear hb2); (try clear hk); (try clear hi); (try clear ho0)))
    go_loopg [6, 7] k (fun kq v6 v7 w' => ∃ (x6_1 : List (List Int)) (x7_1 : Int), v7 = .int .i64 x7_1 ∧ Aside0 (spec_l08Product.l0 kq l0 a1 x6_1 x7_1 = some (r1, r2)) ∧ Aside0 (kq ≤ k) ∧ Aside0 (Kd.S (Kd.slice 2 (Kd.int .i64)) 48 w' w.heap.size (fun _ => True) v6 x6_1) ∧ Aside0 (Below w.heap.size w w'))
    case atStart => exact ⟨(t188), (0), (by first | rfl | (simp; done) | (simp [*]; done)), H', ⟨Nat.le_refl _⟩, ⟨zS⟩, ⟨zB⟩⟩
    case round =>
      clear H'
      obtain ⟨x6_1, x7_1, rfl, HA, HK1, HO_6, HB⟩ := hrel
      cases gk with
      | zero => exact absurd HA.out (by simp [spec_l08Product.l0])
      | succ k1 =>
        have H := HA.out
        clear HA
        simp only [spec_l08Product.l0] at H
        by_cases c6 : x7_1 < (a1.size : Int)
        · rw [if_pos c6] at H
          have c6b0 : decide (x7_1 < (a1.size : Int)) = true := decide_eq_true c6
          clear c6
          by_cases c7 : 0 ≤ x7_1
          · rw [if_pos c7] at H
            have c7b0 : decide (0 ≤ x7_1) = true := decide_eq_true c7
            clear c7
            obtain ⟨ji9, hji9⟩ : ∃ j_ : Int, (((bt a1 x7_1) - 48) % 256) = j_ := ⟨_, rfl⟩
            replace H : (if 0 ≤ (ji9) then (if (ji9) < (l0.length : Int) then ((spec_l08Times.f k1 x6_1 (rd_L7 l0 (ji9))).bind fun bt192 => (if bt192.2 = true then (spec_l08Product.l0 k1 l0 a1 bt192.1 (wrap64 (x7_1 + 1))) else (some (([] : List (List Int)), false)))) else (none)) else (none)) = some (r1, r2) := by first | (rw [hji9] at H; exact H) | (simp only [hji9] at H ⊢; exact H)
            by_cases c10 : 0 ≤ (ji9)
            ·rw [if_pos c10] at H
             have c10b0 : decide (0 ≤ (ji9)) = true := decide_eq_true c10
             clear c10
             by_cases c11 : (ji9) < (l0.length : Int)
             ·rw [if_pos c11] at H
              have c11b0 : decide ((ji9) < (l0.length : Int)) = true := decide_eq_true c11
              clear c11
              replace H := Option.bind_eq_some_iff.mp H
              obtain ⟨⟨t192, t193⟩, A120, H⟩ := H
              replace H : (if t193 = true then (spec_l08Product.l0 k1 l0 a1 t192 (wrap64 (x7_1 + 1))) else (some (([] : List (List Int)), false))) = some (r1, r2) := H
              have A12 := Aside0.mk A120
              clear A120
              by_cases c13 : t193 = true
              ·subst c13
               have H1 : (spec_l08Product.l0 k1 l0 a1 t192 (wrap64 (x7_1 + 1))) = some (r1, r2) := by rw [if_pos rfl] at H; exact H
               clear H
               have H := H1
               clear H1
               have H' := Aside0.mk H
               clear H
               have p8 : 0 ≤ (x7_1 : Int) := zD
               have q8 : x7_1 < (a1.size : Int) := zD
               have hx8 := bt_at a1 x7_1
               replace p8 := eq_true p8
               replace q8 := eq_true q8
               have p191 : 0 ≤ ((ji9) : Int) := zD
               have q191 : (ji9) < (l0.length : Int) := zD
               obtain ⟨ad191, A191_0, c191_0, e191, hx191_0, hl191_0, hi191_0⟩ := at_L7 HR0.out (ji9) p191 q191
               obtain rfl : ad187 = ad191 := (by injection e191)
               replace hx191_0 := zH HB hx191_0
               have HR191_0 := Aside0.mk hi191_0
               have HC191_0 := Aside0.mk hl191_0
               clear hi191_0 hl191_0
               replace p191 := eq_true p191
               replace q191 := eq_true q191
               obtain ⟨Ao14, co14, eo14⟩ := Kd.S_slice HO_6.out
               subst eo14
               go_wp2_with (first | ((with_reducible refine gate_callee (f := 152) rfl ?_); refine goesL_ (some 30) rfl rfl Try.func152 (by kernel_rfl) rfl #[.slice Ao14 x6_1.length co14, .slice A191_0 (rd_L7 l0 (ji9)).length c191_0] rfl (by (try simp only [List.map_toArray, List.map_cons, List.map_nil]); first | done | (simp only [hji9]; rfl) | rfl | (simp only [List.length_drop, List.length_take]; rfl)) ?_; (with_reducible refine (spec_l08Times.calls k1 _ _ x6_1 _ _ (rd_L7 l0 (ji9)) t192 true _ ?side1 ?side2 ?side3 ?side4 A12.out).mono ?_); (case side1 => repeat (first | exact (Kd.S_reads' HO_6.out).2.2 | (with_reducible refine Kd.C_alloc ?_ _) | (with_reducible refine Kd.C_drewN ?_ _) | (with_reducible refine Kd.C_drew ?_))); (case side2 => exact (Kd.S_reads' HO_6.out).2.1); (case side3 => repeat (first | exact (Kd.C_below HR191_0.out HB.out) | (with_reducible refine Kd.C_alloc ?_ _) | (with_reducible refine Kd.C_drewN ?_ _) | (with_reducible refine Kd.C_drew ?_))); (case side4 => exact HC191_0.out); rintro e w15 ⟨v194, rfl, ho0, hb⟩; refine ⟨_, rfl, ?_⟩; have n0_ := Aside0.mk (Kd.S_elder' zS (Kd.S_base ho0) hb); have n1_ := Aside0.mk (Kd.S_lower (Kd.S_new' ho0 (Kd.S_lt zS)) (below_size zB)); have n2_ := Aside0.mk (below_step zB hb); clear HO_6; clear HB; have HO_6 := n0_; have HO195 := n1_; have HB := n2_; clear n0_ n1_ n2_; (try clear hb); (try clear hb2); (try clear hk); (try clear hi); (try clear ho0)))
               go_roundg k1
               case measure => have := HK1.out; omega
               case rel => exact ⟨(t192), (wrap64 (x7_1 + 1)), (by first | rfl | (simp; done) | (simp [*]; done)), H', ⟨by have := HK1.out; omega⟩, ⟨by (with_reducible repeat (first | apply Kd.S_alloc | apply Kd.S_drewN | apply Kd.S_drew)); exact Kd.S_mono HO195.out (fun _ hk => trivial)⟩, ⟨zB⟩⟩
              ·replace c13 := Bool.eq_false_iff.mpr c13
               subst c13
               have H1 : (some (([] : List (List Int)), false)) = some (r1, r2) := by rw [if_neg (show ¬ (false = true) by decide)] at H; exact H
               clear H
               have H := H1
               clear H1
               simp only [Option.some.injEq, Prod.mk.injEq] at H
               obtain ⟨rfl, rfl⟩ := H
               have p8 : 0 ≤ (x7_1 : Int) := zD
               have q8 : x7_1 < (a1.size : Int) := zD
               have hx8 := bt_at a1 x7_1
               replace p8 := eq_true p8
               replace q8 := eq_true q8
               have p191 : 0 ≤ ((ji9) : Int) := zD
               have q191 : (ji9) < (l0.length : Int) := zD
               obtain ⟨ad191, A191_0, c191_0, e191, hx191_0, hl191_0, hi191_0⟩ := at_L7 HR0.out (ji9) p191 q191
               obtain rfl : ad187 = ad191 := (by injection e191)
               replace hx191_0 := zH HB hx191_0
               have HR191_0 := Aside0.mk hi191_0
               have HC191_0 := Aside0.mk hl191_0
               clear hi191_0 hl191_0
               replace p191 := eq_true p191
               replace q191 := eq_true q191
               obtain ⟨Ao16, co16, eo16⟩ := Kd.S_slice HO_6.out
               subst eo16
               go_wp2_with (first | ((with_reducible refine gate_callee (f := 152) rfl ?_); refine goesL_ (some 30) rfl rfl Try.func152 (by kernel_rfl) rfl #[.slice Ao16 x6_1.length co16, .slice A191_0 (rd_L7 l0 (ji9)).length c191_0] rfl (by (try simp only [List.map_toArray, List.map_cons, List.map_nil]); first | done | (simp only [hji9]; rfl) | rfl | (simp only [List.length_drop, List.length_take]; rfl)) ?_; (with_reducible refine (spec_l08Times.calls k1 _ _ x6_1 _ _ (rd_L7 l0 (ji9)) t192 false _ ?side1 ?side2 ?side3 ?side4 A12.out).mono ?_); (case side1 => repeat (first | exact (Kd.S_reads' HO_6.out).2.2 | (with_reducible refine Kd.C_alloc ?_ _) | (with_reducible refine Kd.C_drewN ?_ _) | (with_reducible refine Kd.C_drew ?_))); (case side2 => exact (Kd.S_reads' HO_6.out).2.1); (case side3 => repeat (first | exact (Kd.C_below HR191_0.out HB.out) | (with_reducible refine Kd.C_alloc ?_ _) | (with_reducible refine Kd.C_drewN ?_ _) | (with_reducible refine Kd.C_drew ?_))); (case side4 => exact HC191_0.out); rintro e w17 ⟨v194, rfl, ho0, hb⟩; refine ⟨_, rfl, ?_⟩; have n0_ := Aside0.mk (Kd.S_elder' zS (Kd.S_base ho0) hb); have n1_ := Aside0.mk (Kd.S_lower (Kd.S_new' ho0 (Kd.S_lt zS)) (below_size zB)); have n2_ := Aside0.mk (below_step zB hb); clear HO_6; clear HB; have HO_6 := n0_; have HO195 := n1_; have HB := n2_; clear n0_ n1_ n2_; (try clear hb); (try clear hb2); (try clear hk); (try clear hi); (try clear ho0)))
               go_ret2
               exact ⟨_, by first | rfl | (simp [errW_none, errW_some] <;> rfl) | (simp only [← hji9]; first | rfl | (simp [errW_none, errW_some] <;> rfl)) | (simp [*, errW_none, errW_some] <;> rfl), by first | exact Kd.S_nil _ _ _ _ _ | exact Kd.N_nil _ _ _ _ _ | exact Kd.V_nil _ _ _ _ _ | exact Kd.Q_nil _ _ _ _ _ | exact Kd.R_nil _ _ _ _ _, zB⟩
             ·rw [if_neg c11] at H
              exact absurd H (by simp)
            ·rw [if_neg c10] at H
             exact absurd H (by simp)
          · rw [if_neg c7] at H
            exact absurd H (by simp)
        · rw [if_neg c6] at H
          have c6b0 : decide (x7_1 < (a1.size : Int)) = false := decide_eq_false c6
          clear c6
          simp only [Option.some.injEq, Prod.mk.injEq] at H
          obtain ⟨rfl, rfl⟩ := H
          go_wp2
          go_ret2
          exact ⟨_, by first | rfl | (simp [errW_none, errW_some] <;> rfl) | (simp [*, errW_none, errW_some] <;> rfl), zS, zB⟩
  · rw [if_neg c3] at H
    exact absurd H (by simp)
end Go.Proofs.Ytcklefgkbddlhaa.P
