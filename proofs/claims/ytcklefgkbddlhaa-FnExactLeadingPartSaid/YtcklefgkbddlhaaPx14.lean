/- What a call of each Go function named below comes to is what the plain Lean function beside it says. Made by a program of this session out of the print of the translation; Lean checks it. -/
import Derived.Test.YtcklefgkbddlhaaPx0
import Derived.Test.YtcklefgkbddlhaaPx13
namespace Go.Proofs.Ytcklefgkbddlhaa.P
open Go.RowKit Go.Proofs.YtcklefgkbddlhaaW.PrintWords Go.Proofs.YtcklefgkbddlhaaW.PrintLast Go.Proofs.YtcklefgkbddlhaaW.PrintMore
attribute [local go_sem] max2_int min2_int max_two min_two max_three min_three max_four min_four   -- for this text's walks alone
set_option linter.unusedVariables false
set_option linter.unusedSimpArgs false


/-! ### impl_DepthOfWord: function 30 -/
def impl_DepthOfWord.l0 : Nat → List (S89) → Int → Int → Option (Int × Int)
  | 0, _, _, _ => none
  | k + 1, x23, x24, x25 => if x25 < x24 then (if 0 ≤ x25 then (if x25 < (x23.length : Int) then (if ((rd_T89 x23 x25).f0).toList = ([] : List UInt8) then (impl_DepthOfWord.l0 k x23 x24 (wrap64 (x25 + 1))) else (some ((((rd_T89 x23 x25).f0).size : Int), 0))) else (none)) else (none)) else (some (0, 0))
def impl_DepthOfWord.f (k : Nat) (a0 : Int) (a1 : Int) (l2 : List Int) : Option (Int × Int) := (impl_SignatureOfWord.f k a0 a1 l2).bind fun bt442 => (if bt442.2.2.2 = 0 then (impl_DepthOfWord.l0 k bt442.2.2.1 (bt442.2.2.1.length : Int) 0) else (some (0, bt442.2.2.2)))
theorem impl_DepthOfWord.mono_l : ∀ k, (∀ y0 y1 y2, LeO (impl_DepthOfWord.l0 k y0 y1 y2) (impl_DepthOfWord.l0 (k + 1) y0 y1 y2))
  | 0 => fun _ _ _ r h => by simp [impl_DepthOfWord.l0] at h
  | k + 1 => by
    have ih0 := impl_DepthOfWord.mono_l k
    · intro y0 y1 y2
      unfold impl_DepthOfWord.l0
      repeat' first
      | (with_reducible exact ih0 _ _ _)
      | (with_reducible exact impl_SignatureOfWord.mono _ _ _ _)
      | (with_reducible exact LeO.refl _)
      | (with_reducible exact LeO.none _)
      | (with_reducible refine LeO.ite ?_ ?_)
      | (with_reducible refine LeO.bind ?_ (fun _ => ?_))
theorem impl_DepthOfWord.mono : ∀ a0 a1 a2 k, LeO (impl_DepthOfWord.f k a0 a1 a2) (impl_DepthOfWord.f (k + 1) a0 a1 a2) := by
  intro a0 a1 a2 k
  have ih0 := impl_DepthOfWord.mono_l k
  unfold impl_DepthOfWord.f
  repeat' first
      | (with_reducible exact ih0 _ _ _)
      | (with_reducible exact impl_SignatureOfWord.mono _ _ _ _)
      | (with_reducible exact LeO.refl _)
      | (with_reducible exact LeO.none _)
      | (with_reducible refine LeO.ite ?_ ?_)
      | (with_reducible refine LeO.bind ?_ (fun _ => ?_))
set_option maxHeartbeats 8000000 in
set_option maxRecDepth 100000 in
theorem impl_DepthOfWord.calls (k : Nat) (a0 : Int) (a1 : Int) (A2 : Option Addr) (c2 : Nat) (l2 : List Int) (r1 : Int) (r2 : Int) (w : World) (hr2 : Kd.C (Kd.int .i64) w A2 l2.length l2) (hc2 : l2.length ≤ c2) (h : impl_DepthOfWord.f k a0 a1 l2 = some (r1, r2)) :
    Calls Try.prog 30 #[.int .i64 a0, .int .i64 a1, .slice A2 l2.length c2] w fun e w' => e = .returned (.tuple #[.int .i64 r1, .int .i64 r2]) ∧ Below w.heap.size w w' := by
  have hu32 := Try.underlying32
  have hu89 := Try.underlying89
  have HR2 := Aside0.mk hr2
  have HC2 := Aside0.mk hc2
  clear hr2 hc2
  have HB := Aside0.mk (Below.refl w.heap.size w)
  have H : ((impl_SignatureOfWord.f k a0 a1 l2).bind fun bt442 => (if bt442.2.2.2 = 0 then (impl_DepthOfWord.l0 k bt442.2.2.1 (bt442.2.2.1.length : Int) 0) else (some (0, bt442.2.2.2)))) = some (r1, r2) := h
  clear h
  replace H := Option.bind_eq_some_iff.mp H
  obtain ⟨⟨t442, t443, t444, t447⟩, A40, H⟩ := H
  replace H : (if t447 = 0 then (impl_DepthOfWord.l0 k t444 (t444.length : Int) 0) else (some (0, t447))) = some (r1, r2) := H
  have A4 := Aside0.mk A40
  clear A40
  by_cases c5 : t447 = 0
  · rw [if_pos c5] at H
    have c5b0 : (t447 == 0) = true := beq_iff_eq.mpr c5
    have c5b1 : (t447 != 0) = false := bne_eq_false_iff_eq.mpr c5
    clear c5
    have H' := Aside0.mk H
    clear H
    go_enter Try.func30, Try.ntmps30
    go_wp2_with (first | ((with_reducible refine gate_callee (f := 33) rfl ?_); refine goesL_ (some 16) rfl rfl Try.func33 (by kernel_rfl) rfl #[.int .i64 a0, .int .i64 a1, .slice A2 l2.length c2] rfl zM ?_; (with_reducible refine (impl_SignatureOfWord.calls k a0 a1 _ _ l2 t442 t443 t444 t447 _ ?side1 ?side2 A4.out).mono ?_); (case side1 => repeat (first | exact HR2.out | (with_reducible refine Kd.C_alloc ?_ _) | (with_reducible refine Kd.C_drewN ?_ _) | (with_reducible refine Kd.C_drew ?_))); (case side2 => exact HC2.out); rintro e w6 ⟨v445, rfl, ho0, hb⟩; refine ⟨_, rfl, ?_⟩; have HO446 := Aside0.mk (Kd.R_lower ho0 (below_size zB)); replace HB := Aside0.mk (below_step zB hb); (try clear hb); (try clear hb2); (try clear hk); (try clear hi); (try clear ho0)) | ((with_reducible refine gate_dst (N := 8) rfl ?_); refine zX 8 (#[.int .i64 0, .int .i64 0, .slice none 0 0]) 32 ?_; intro gb448 hg w7 hbox hb; have BK448 := Aside0.mk (hbox); have GW448 := Aside0.mk (zG : w.heap.size ≤ gb448); have GE448 := Aside0.mk (zG : w.heap.size ≤ gb448); replace HO446 := Aside0.mk (Kd.R_below HO446.out hb); replace HB := Aside0.mk (below_step zB hb); clear hb hbox hg; obtain ⟨hcz8_0, hcz8_1, hcz8_2, hfz8_0, hfz8_1, hfz8_2⟩ := zC3 BK448; obtain ⟨Ao9, co9, eo9⟩ := Kd.R_slice HO446.out; subst eo9))
    go_loopg [25] k (fun kq v25 w' => ∃ (x25_1 : Int), v25 = .int .i64 x25_1 ∧ Aside0 (impl_DepthOfWord.l0 kq t444 (t444.length : Int) x25_1 = some (r1, r2)) ∧ Aside0 (kq ≤ k) ∧ Aside0 (Kd.R k89 89 w' w.heap.size (fun _ => True) (.slice Ao9 t444.length co9) t444) ∧ Aside0 (Kd.R k89 89 w' w.heap.size (fun _ => True) (.slice Ao9 t444.length co9) t444) ∧ Aside0 (w'.heap[gb448]? = some (.cells #[.int .i64 t442, .int .i64 t443, (.slice Ao9 t444.length co9)] 32 (0, 0))) ∧ Aside0 (Below w.heap.size w w'))
    case atStart => exact ⟨(0), (by first | rfl | (simp; done) | (simp [*]; done)), H', ⟨Nat.le_refl _⟩, ⟨by (with_reducible repeat (first | apply Kd.R_alloc | apply Kd.R_drewN | apply Kd.R_drew)); exact Kd.R_mono (Kd.R_far (p := ⟨gb448, 2, none⟩) (Kd.R_far (p := ⟨gb448, 1, none⟩) (Kd.R_far (p := ⟨gb448, 0, none⟩) (Kd.R_types HO446.out BK448.out (by decide)) (fun _ hk => hk.2) (.int .i64 t442)) (fun _ hk => hk.2) (.int .i64 t443)) (fun _ hk => hk.2) (.slice Ao9 t444.length co9)) (fun _ hk => trivial)⟩, ⟨by (with_reducible repeat (first | apply Kd.R_alloc | apply Kd.R_drewN | apply Kd.R_drew)); exact Kd.R_mono (Kd.R_far (p := ⟨gb448, 2, none⟩) (Kd.R_far (p := ⟨gb448, 1, none⟩) (Kd.R_far (p := ⟨gb448, 0, none⟩) (Kd.R_types HO446.out BK448.out (by decide)) (fun _ hk => hk.2) (.int .i64 t442)) (fun _ hk => hk.2) (.int .i64 t443)) (fun _ hk => hk.2) (.slice Ao9 t444.length co9)) (fun _ hk => trivial)⟩, ⟨by (with_reducible repeat (first | refine blk_drewN ?_ _ | refine blk_drew ?_ | refine blk_alloc ?_ _)); refine blk_put (cs := #[.int .i64 t442, .int .i64 t443, .slice none 0 0]) ?_ 2 _ rfl; (with_reducible repeat (first | refine blk_drewN ?_ _ | refine blk_drew ?_ | refine blk_alloc ?_ _)); refine blk_put (cs := #[.int .i64 t442, .int .i64 0, .slice none 0 0]) ?_ 1 _ rfl; (with_reducible repeat (first | refine blk_drewN ?_ _ | refine blk_drew ?_ | refine blk_alloc ?_ _)); refine blk_put (cs := #[.int .i64 0, .int .i64 0, .slice none 0 0]) ?_ 0 _ rfl; (with_reducible repeat (first | refine blk_drewN ?_ _ | refine blk_drew ?_ | refine blk_alloc ?_ _)); exact BK448.out⟩, ⟨zB⟩⟩
    case round =>
      clear H'
      obtain ⟨x25_1, rfl, HA, HK1, HO_23, HO_449002, BK448, HB⟩ := hrel
      cases gk with
      | zero => exact absurd HA.out (by simp [impl_DepthOfWord.l0])
      | succ k1 =>
        have H := HA.out
        clear HA
        simp only [impl_DepthOfWord.l0] at H
        by_cases c10 : x25_1 < (t444.length : Int)
        · rw [if_pos c10] at H
          have c10b0 : decide (x25_1 < (t444.length : Int)) = true := decide_eq_true c10
          clear c10
          by_cases c11 : 0 ≤ x25_1
          · rw [if_pos c11] at H
            have c11b0 : decide (0 ≤ x25_1) = true := decide_eq_true c11
            clear c11
            by_cases c12 : x25_1 < (t444.length : Int)
            ·rw [if_pos c12] at H
             have c12b0 : decide (x25_1 < (t444.length : Int)) = true := decide_eq_true c12
             clear c12
             by_cases c13 : ((rd_T89 t444 x25_1).f0).toList = ([] : List UInt8)
             ·rw [if_pos c13] at H
              have c13b0 : (((rd_T89 t444 x25_1).f0).toList == ([] : List UInt8)) = true := beq_iff_eq.mpr c13
              have c13b1 : (((rd_T89 t444 x25_1).f0).toList != ([] : List UInt8)) = false := bne_eq_false_iff_eq.mpr c13
              clear c13
              have H' := Aside0.mk H
              clear H
              have p449 : 0 ≤ (x25_1 : Int) := zD
              have q449 : x25_1 < (t444.length : Int) := zD
              obtain ⟨ad449, e449, hx449_0, hx449_1, hx449_2⟩ := at_T89 (Kd.R_reads' HO_23.out).2.2 x25_1 p449 q449
              cases e449
              replace p449 := eq_true p449
              replace q449 := eq_true q449
              go_wp2_with (first | ((with_reducible refine gate_dst (N := 11) rfl ?_); refine zX 11 (#[.string (⟨#[]⟩ : ByteArray), .int .i64 0, .int .i64 0]) 89 ?_; intro gb450 hg w14 hbox hb; have BK450 := Aside0.mk (hbox); have GW450 := Aside0.mk (zG : w.heap.size ≤ gb450); have GE450 := Aside0.mk (zG : w.heap.size ≤ gb450); have NB448_450 := Aside0.mk (zU BK448 hg); have NB450_448 := Aside0.mk (zV BK448 hg); replace HO_23 := Aside0.mk (Kd.R_below (Kd.R_elderB zR gb450 (Nat.le_of_eq hg.symm)) hb); replace HO_449002 := Aside0.mk (Kd.R_below (Kd.R_elderB zR gb450 (Nat.le_of_eq hg.symm)) hb); replace BK448 := Aside0.mk (zW BK448 hb); replace HB := Aside0.mk (below_step zB hb); clear hb hbox hg; have hnb15 := NB450_448.out; have hnc15 := NB448_450.out; obtain ⟨hcz16_0, hcz16_1, hcz16_2, hfz16_0, hfz16_1, hfz16_2⟩ := zC3 BK450))
              go_roundg k1
              case measure => have := HK1.out; omega
              case rel => exact ⟨(wrap64 (x25_1 + 1)), (by first | rfl | (simp; done) | (simp [*]; done)), H', ⟨by have := HK1.out; omega⟩, ⟨by (with_reducible repeat (first | apply Kd.R_alloc | apply Kd.R_drewN | apply Kd.R_drew)); exact Kd.R_mono (Kd.R_far (p := ⟨gb450, 2, none⟩) (Kd.R_far (p := ⟨gb450, 1, none⟩) (Kd.R_far (p := ⟨gb450, 0, none⟩) (Kd.R_mono HO_23.out (fun k_ hk => (⟨hk, hk.2⟩ : _ ∧ k_ ≠ gb450))) (fun _ hk => hk.2) (.string ((rd_T89 t444 x25_1).f0))) (fun _ hk => hk.2) (.int .i64 ((rd_T89 t444 x25_1).f1.f0))) (fun _ hk => hk.2) (.int .i64 ((rd_T89 t444 x25_1).f1.f1))) (fun _ hk => trivial)⟩, ⟨by (with_reducible repeat (first | apply Kd.R_alloc | apply Kd.R_drewN | apply Kd.R_drew)); exact Kd.R_mono (Kd.R_far (p := ⟨gb450, 2, none⟩) (Kd.R_far (p := ⟨gb450, 1, none⟩) (Kd.R_far (p := ⟨gb450, 0, none⟩) (Kd.R_mono HO_449002.out (fun k_ hk => (⟨hk, hk.2⟩ : _ ∧ k_ ≠ gb450))) (fun _ hk => hk.2) (.string ((rd_T89 t444 x25_1).f0))) (fun _ hk => hk.2) (.int .i64 ((rd_T89 t444 x25_1).f1.f0))) (fun _ hk => hk.2) (.int .i64 ((rd_T89 t444 x25_1).f1.f1))) (fun _ hk => trivial)⟩, ⟨by (with_reducible repeat (first | refine blk_drewN ?_ _ | refine blk_drew ?_ | refine blk_alloc ?_ _)); refine blk_far ?_ NB448_450.out _; (with_reducible repeat (first | refine blk_drewN ?_ _ | refine blk_drew ?_ | refine blk_alloc ?_ _)); refine blk_far ?_ NB448_450.out _; (with_reducible repeat (first | refine blk_drewN ?_ _ | refine blk_drew ?_ | refine blk_alloc ?_ _)); refine blk_far ?_ NB448_450.out _; (with_reducible repeat (first | refine blk_drewN ?_ _ | refine blk_drew ?_ | refine blk_alloc ?_ _)); exact BK448.out⟩, ⟨zB⟩⟩
             ·rw [if_neg c13] at H
              have c13b0 : (((rd_T89 t444 x25_1).f0).toList == ([] : List UInt8)) = false := beq_eq_false_iff_ne.mpr c13
              have c13b1 : (((rd_T89 t444 x25_1).f0).toList != ([] : List UInt8)) = true := bne_iff_ne.mpr c13
              simp only [Option.some.injEq, Prod.mk.injEq] at H
              obtain ⟨rfl, rfl⟩ := H
              have p449 : 0 ≤ (x25_1 : Int) := zD
              have q449 : x25_1 < (t444.length : Int) := zD
              obtain ⟨ad449, e449, hx449_0, hx449_1, hx449_2⟩ := at_T89 (Kd.R_reads' HO_23.out).2.2 x25_1 p449 q449
              cases e449
              replace p449 := eq_true p449
              replace q449 := eq_true q449
              go_wp2_with (first | ((with_reducible refine gate_dst (N := 11) rfl ?_); refine zX 11 (#[.string (⟨#[]⟩ : ByteArray), .int .i64 0, .int .i64 0]) 89 ?_; intro gb450 hg w17 hbox hb; have BK450 := Aside0.mk (hbox); have GW450 := Aside0.mk (zG : w.heap.size ≤ gb450); have GE450 := Aside0.mk (zG : w.heap.size ≤ gb450); have NB448_450 := Aside0.mk (zU BK448 hg); have NB450_448 := Aside0.mk (zV BK448 hg); replace HO_23 := Aside0.mk (Kd.R_below (Kd.R_elderB zR gb450 (Nat.le_of_eq hg.symm)) hb); replace HO_449002 := Aside0.mk (Kd.R_below (Kd.R_elderB zR gb450 (Nat.le_of_eq hg.symm)) hb); replace BK448 := Aside0.mk (zW BK448 hb); replace HB := Aside0.mk (below_step zB hb); clear hb hbox hg; have hnb18 := NB450_448.out; have hnc18 := NB448_450.out; obtain ⟨hcz19_0, hcz19_1, hcz19_2, hfz19_0, hfz19_1, hfz19_2⟩ := zC3 BK450))
              go_ret2
              exact ⟨by first | rfl | (simp [errW_none, errW_some] <;> rfl) | (simp [*, errW_none, errW_some] <;> rfl), zB⟩
            ·rw [if_neg c12] at H
             exact absurd H (by simp)
          · rw [if_neg c11] at H
            exact absurd H (by simp)
        · rw [if_neg c10] at H
          have c10b0 : decide (x25_1 < (t444.length : Int)) = false := decide_eq_false c10
          clear c10
          simp only [Option.some.injEq, Prod.mk.injEq] at H
          obtain ⟨rfl, rfl⟩ := H
          go_wp2
          go_ret2
          exact ⟨by first | rfl | (simp [errW_none, errW_some] <;> rfl) | (simp [*, errW_none, errW_some] <;> rfl), zB⟩
  · rw [if_neg c5] at H
    have c5b0 : (t447 == 0) = false := beq_eq_false_iff_ne.mpr c5
    have c5b1 : (t447 != 0) = true := bne_iff_ne.mpr c5
    simp only [Option.some.injEq, Prod.mk.injEq] at H
    obtain ⟨rfl, rfl⟩ := H
    go_enter Try.func30, Try.ntmps30
    go_wp2_with (first | ((with_reducible refine gate_callee (f := 33) rfl ?_); refine goesL_ (some 16) rfl rfl Try.func33 (by kernel_rfl) rfl #[.int .i64 a0, .int .i64 a1, .slice A2 l2.length c2] rfl zM ?_; (with_reducible refine (impl_SignatureOfWord.calls k a0 a1 _ _ l2 t442 t443 t444 t447 _ ?side1 ?side2 A4.out).mono ?_); (case side1 => repeat (first | exact HR2.out | (with_reducible refine Kd.C_alloc ?_ _) | (with_reducible refine Kd.C_drewN ?_ _) | (with_reducible refine Kd.C_drew ?_))); (case side2 => exact HC2.out); rintro e w20 ⟨v445, rfl, ho0, hb⟩; refine ⟨_, rfl, ?_⟩; have HO446 := Aside0.mk (Kd.R_lower ho0 (below_size zB)); replace HB := Aside0.mk (below_step zB hb); (try clear hb); (try clear hb2); (try clear hk); (try clear hi); (try clear ho0)) | ((with_reducible refine gate_dst (N := 8) rfl ?_); refine zX 8 (#[.int .i64 0, .int .i64 0, .slice none 0 0]) 32 ?_; intro gb448 hg w21 hbox hb; have BK448 := Aside0.mk (hbox); have GW448 := Aside0.mk (zG : w.heap.size ≤ gb448); have GE448 := Aside0.mk (zG : w.heap.size ≤ gb448); replace HO446 := Aside0.mk (Kd.R_below HO446.out hb); replace HB := Aside0.mk (below_step zB hb); clear hb hbox hg; obtain ⟨hcz22_0, hcz22_1, hcz22_2, hfz22_0, hfz22_1, hfz22_2⟩ := zC3 BK448; obtain ⟨Ao23, co23, eo23⟩ := Kd.R_slice HO446.out; subst eo23))
    go_ret2
    exact ⟨by first | rfl | (simp [errW_none, errW_some] <;> rfl) | (simp [*, errW_none, errW_some] <;> rfl), zB⟩


/-! ### impl_Series_chosen: function 79, by hand -/
def depB (a : Int) (s : ByteArray) : Option Bool := some (decide (0 < a) && decide ((s.size : Int) = a))
set_option maxHeartbeats 1000000 in
theorem impl_Series_chosen_ask (a : Int) (s : ByteArray) (r : Bool) (gd : Nat) (W : World) (hc : W.cell? ⟨gd, 0, none⟩ = some (.int .i64 a)) (hs : s.size ≤ 1000) (h : depB a s = some r) :
    Calls Try.prog 80 #[.string s, .pointer (some ⟨gd, 0, none⟩)] W fun e w' => e = .returned (.bool r) ∧ Drawn0 W w' := by
  obtain rfl := Option.some.inj h
  clear h
  have e1 : wrap64 (s.size : Int) = (s.size : Int) := by unfold wrap64; omega
  by_cases h0 : 0 < a
  · have b0 : decide (a > 0) = true := decide_eq_true h0
    by_cases h1 : (s.size : Int) = a
    · have b1 : ((s.size : Int) == a) = true := by simpa using h1
      go_enter Try.func80, Try.ntmps80
      go_wp2
      go_ret
      refine ⟨by simp [h0, h1], ?_⟩
      repeat (first | exact Drawn0.refl _ | apply Drawn0.step)
    · have b1 : ((s.size : Int) == a) = false := by simpa using h1
      go_enter Try.func80, Try.ntmps80
      go_wp2
      go_ret
      refine ⟨by simp [h0, h1], ?_⟩
      repeat (first | exact Drawn0.refl _ | apply Drawn0.step)
  · have b0 : decide (a > 0) = false := decide_eq_false h0
    go_enter Try.func80, Try.ntmps80
    go_wp2
    go_ret
    refine ⟨by simp [h0], ?_⟩
    repeat (first | exact Drawn0.refl _ | apply Drawn0.step)
theorem impl_Series_chosen_size (l : List (S89)) (h : ∀ t ∈ l, t.f0.size ≤ 1000) (i : Int) : ((rd_T89 l i).f0).size ≤ 1000 := by
  by_cases hi : i.toNat < l.length
  · have e : rd_T89 l i = l[i.toNat] := by simp [rd_T89, List.getD_eq_getElem?_getD, hi]
    rw [e]
    exact h _ (List.getElem_mem hi)
  · have e : rd_T89 l i = ⟨⟨#[]⟩, ⟨0, 0⟩⟩ := by simp [rd_T89, List.getD_eq_getElem?_getD, hi]; rfl
    rw [e]
    decide
def impl_Series_chosen.l0 : Nat → Int → List (S89) → Int → Int → Int → Int → List (S89) → Option (Int × Int × (List (S89)))
  | 0, _, _, _, _, _, _, _ => none
  | k + 1, x1, x14, x15, x16, x454000, x454001, x454002 => if x16 < x15 then (if 0 ≤ x16 then (if x16 < (x14.length : Int) then ((depB x1 ((rd_T89 x14 x16).f0)).bind fun t456 => (if t456 = true then (if x454002.length < 4398046511104 then (impl_Series_chosen.l0 k x1 x14 x15 (wrap64 (x16 + 1)) x454000 x454001 (x454002 ++ [(⟨(rd_T89 x14 x16).f0, (⟨(rd_T89 x14 x16).f1.f0, (rd_T89 x14 x16).f1.f1⟩ : S27)⟩ : S89)])) else (none)) else (impl_Series_chosen.l0 k x1 x14 x15 (wrap64 (x16 + 1)) x454000 x454001 x454002))) else (none)) else (none)) else (some (x454000, x454001, x454002))
def impl_Series_chosen.f (k : Nat) (a0_0 : Int) (a0_1 : Int) (l0_2 : List (S89)) (a1 : Int) : Option (Int × Int × (List (S89))) := impl_Series_chosen.l0 k a1 l0_2 (l0_2.length : Int) 0 a0_0 a0_1 ([] : List (S89))
theorem impl_Series_chosen.mono_l : ∀ k, (∀ y0 y1 y2 y3 y4 y5 y6, LeO (impl_Series_chosen.l0 k y0 y1 y2 y3 y4 y5 y6) (impl_Series_chosen.l0 (k + 1) y0 y1 y2 y3 y4 y5 y6))
  | 0 => fun _ _ _ _ _ _ _ r h => by simp [impl_Series_chosen.l0] at h
  | k + 1 => by
    have ih0 := impl_Series_chosen.mono_l k
    · intro y0 y1 y2 y3 y4 y5 y6
      unfold impl_Series_chosen.l0
      repeat' first
      | (with_reducible exact ih0 _ _ _ _ _ _ _)
      | (with_reducible exact LeO.refl _)
      | (with_reducible exact LeO.none _)
      | (with_reducible refine LeO.ite ?_ ?_)
      | (with_reducible refine LeO.bind ?_ (fun _ => ?_))
theorem impl_Series_chosen.mono : ∀ a0 a1 a2 a3 k, LeO (impl_Series_chosen.f k a0 a1 a2 a3) (impl_Series_chosen.f (k + 1) a0 a1 a2 a3) := by
  intro a0 a1 a2 a3 k
  have ih0 := impl_Series_chosen.mono_l k
  unfold impl_Series_chosen.f
  repeat' first
      | (with_reducible exact ih0 _ _ _ _ _ _ _)
      | (with_reducible exact LeO.refl _)
      | (with_reducible exact LeO.none _)
      | (with_reducible refine LeO.ite ?_ ?_)
      | (with_reducible refine LeO.bind ?_ (fun _ => ?_))
set_option maxHeartbeats 8000000 in
set_option maxRecDepth 100000 in
theorem impl_Series_chosen.calls (k : Nat) (a0_0 : Int) (a0_1 : Int) (A0_2 : Option Addr) (c0_2 : Nat) (l0_2 : List (S89)) (a1 : Int) (gd : Nat) (r1 : Int) (r2 : Int) (r3 : List (S89)) (w : World) (hr0_2 : Kd.C k89 w A0_2 l0_2.length l0_2) (hc0_2 : l0_2.length ≤ c0_2) (hgd : w.cell? ⟨gd, 0, none⟩ = some (.int .i64 a1)) (hsz : ∀ t ∈ l0_2, t.f0.size ≤ 1000) (h : impl_Series_chosen.f k a0_0 a0_1 l0_2 a1 = some (r1, r2, r3)) :
    Calls Try.prog 79 #[.agg #[.int .i64 a0_0, .int .i64 a0_1, .slice A0_2 l0_2.length c0_2], .func (.func 80) #[] #[.pointer (some ⟨gd, 0, none⟩)]] w fun e w' => ∃ v2_ : Value, e = .returned (.agg #[.int .i64 r1, .int .i64 r2, v2_]) ∧ Kd.R k89 89 w' w.heap.size (fun _ => True) v2_ r3 ∧ Below w.heap.size w w' := by
  have hu32 := Try.underlying32
  have hu89 := Try.underlying89
  have HR0_2 := Aside0.mk hr0_2
  have HC0_2 := Aside0.mk hc0_2
  clear hr0_2 hc0_2
  have HB := Aside0.mk (Below.refl w.heap.size w)
  have H : (impl_Series_chosen.l0 k a1 l0_2 (l0_2.length : Int) 0 a0_0 a0_1 ([] : List (S89))) = some (r1, r2, r3) := h
  clear h
  have H' := Aside0.mk H
  clear H
  go_enter Try.func79, Try.ntmps79
  go_wp2_with (first | ((with_reducible refine gate_dst (N := 2) rfl ?_); refine zX 2 (#[.int .i64 a0_0, .int .i64 a0_1, .slice A0_2 l0_2.length c0_2]) 32 ?_; intro gb451 hg w3 hbox hb; have BK451 := Aside0.mk (hbox); have GW451 := Aside0.mk (zG : w.heap.size ≤ gb451); have GE451 := Aside0.mk (zG : w.heap.size ≤ gb451); replace HB := Aside0.mk (below_step zB hb); clear hb hbox hg) | ((with_reducible refine gate_dst (N := 4) rfl ?_); refine zX 4 (#[.int .i64 0, .int .i64 0, .slice none 0 0]) 32 ?_; intro gb452 hg w4 hbox hb; have BK452 := Aside0.mk (hbox); have GW452 := Aside0.mk (zG : w.heap.size ≤ gb452); have GE452 := Aside0.mk (zG : w.heap.size ≤ gb452); have NB451_452 := Aside0.mk (zU BK451 hg); have NB452_451 := Aside0.mk (zV BK451 hg); replace BK451 := Aside0.mk (zW BK451 hb); replace HB := Aside0.mk (below_step zB hb); clear hb hbox hg; have hnb5 := NB451_452.out; have hnc5 := NB452_451.out; obtain ⟨hcz6_0, hcz6_1, hcz6_2, hfz6_0, hfz6_1, hfz6_2⟩ := zC3 BK451) | ((with_reducible refine gate_dst (N := 5) rfl ?_); refine zX 5 (#[.int .i64 0, .int .i64 0, .slice none 0 0]) 32 ?_; intro gb453 hg w7 hbox hb; have BK453 := Aside0.mk (hbox); have GW453 := Aside0.mk (zG : w.heap.size ≤ gb453); have GE453 := Aside0.mk (zG : w.heap.size ≤ gb453); have NB451_453 := Aside0.mk (zU BK451 hg); have NB453_451 := Aside0.mk (zV BK451 hg); have NB452_453 := Aside0.mk (zU BK452 hg); have NB453_452 := Aside0.mk (zV BK452 hg); replace BK451 := Aside0.mk (zW BK451 hb); replace BK452 := Aside0.mk (zW BK452 hb); replace HB := Aside0.mk (below_step zB hb); clear hb hbox hg; have hnb8 := NB453_451.out; have hnc8 := NB451_453.out; have hnb9 := NB453_452.out; have hnc9 := NB452_453.out; obtain ⟨hcz10_0, hcz10_1, hcz10_2, hfz10_0, hfz10_1, hfz10_2⟩ := zC3 BK453; obtain ⟨hcz11_0, hcz11_1, hcz11_2, hfz11_0, hfz11_1, hfz11_2⟩ := zC3 BK451))
  go_loopg [16] k (fun kq v16 w' => ∃ (x16_1 : Int) (x454002_1 : List (S89)) (u454002 : Value), v16 = .int .i64 x16_1 ∧ Aside0 (impl_Series_chosen.l0 kq a1 l0_2 (l0_2.length : Int) x16_1 a0_0 a0_1 x454002_1 = some (r1, r2, r3)) ∧ Aside0 (kq ≤ k) ∧ Aside0 (Kd.R k89 89 w' w.heap.size (fun _ => True) u454002 x454002_1) ∧ Aside0 (w'.heap[gb451]? = some (.cells #[.int .i64 a0_0, .int .i64 a0_1, (.slice A0_2 l0_2.length c0_2)] 32 (0, 0))) ∧ Aside0 (w'.heap[gb452]? = some (.cells #[.int .i64 0, .int .i64 0, (.slice none 0 0)] 32 (0, 0))) ∧ Aside0 (w'.heap[gb453]? = some (.cells #[.int .i64 a0_0, .int .i64 a0_1, u454002] 32 (0, 0))) ∧ Aside0 (Below w.heap.size w w'))
  case atStart => exact ⟨(0), (([] : List (S89))), (.slice none 0 0), (by first | rfl | (simp; done) | (simp [*]; done)), H', ⟨Nat.le_refl _⟩, ⟨by first | exact Kd.R_nil _ _ _ _ _ | exact Kd.N_nil _ _ _ _ _ | exact Kd.V_nil _ _ _ _ _ | exact Kd.Q_nil _ _ _ _ _ | exact Kd.S_nil _ _ _ _ _⟩, ⟨by (with_reducible repeat (first | refine blk_drewN ?_ _ | refine blk_drew ?_ | refine blk_alloc ?_ _)); refine blk_far ?_ NB451_453.out _; (with_reducible repeat (first | refine blk_drewN ?_ _ | refine blk_drew ?_ | refine blk_alloc ?_ _)); refine blk_far ?_ NB451_453.out _; (with_reducible repeat (first | refine blk_drewN ?_ _ | refine blk_drew ?_ | refine blk_alloc ?_ _)); refine blk_far ?_ NB451_453.out _; (with_reducible repeat (first | refine blk_drewN ?_ _ | refine blk_drew ?_ | refine blk_alloc ?_ _)); exact BK451.out⟩, ⟨by (with_reducible repeat (first | refine blk_drewN ?_ _ | refine blk_drew ?_ | refine blk_alloc ?_ _)); refine blk_far ?_ NB452_453.out _; (with_reducible repeat (first | refine blk_drewN ?_ _ | refine blk_drew ?_ | refine blk_alloc ?_ _)); refine blk_far ?_ NB452_453.out _; (with_reducible repeat (first | refine blk_drewN ?_ _ | refine blk_drew ?_ | refine blk_alloc ?_ _)); refine blk_far ?_ NB452_453.out _; (with_reducible repeat (first | refine blk_drewN ?_ _ | refine blk_drew ?_ | refine blk_alloc ?_ _)); exact BK452.out⟩, ⟨by (with_reducible repeat (first | refine blk_drewN ?_ _ | refine blk_drew ?_ | refine blk_alloc ?_ _)); refine blk_put (cs := #[.int .i64 a0_0, .int .i64 a0_1, .slice none 0 0]) ?_ 2 _ rfl; (with_reducible repeat (first | refine blk_drewN ?_ _ | refine blk_drew ?_ | refine blk_alloc ?_ _)); refine blk_put (cs := #[.int .i64 a0_0, .int .i64 0, .slice none 0 0]) ?_ 1 _ rfl; (with_reducible repeat (first | refine blk_drewN ?_ _ | refine blk_drew ?_ | refine blk_alloc ?_ _)); refine blk_put (cs := #[.int .i64 0, .int .i64 0, .slice none 0 0]) ?_ 0 _ rfl; (with_reducible repeat (first | refine blk_drewN ?_ _ | refine blk_drew ?_ | refine blk_alloc ?_ _)); exact BK453.out⟩, ⟨zB⟩⟩
  case round =>
    clear H'
    obtain ⟨x16_1, x454002_1, u454002, rfl, HA, HK1, HO_454002, BK451, BK452, BK453, HB⟩ := hrel
    cases gk with
    | zero => exact absurd HA.out (by simp [impl_Series_chosen.l0])
    | succ k1 =>
      have H := HA.out
      clear HA
      simp only [impl_Series_chosen.l0] at H
      by_cases c12 : x16_1 < (l0_2.length : Int)
      · rw [if_pos c12] at H
        have c12b0 : decide (x16_1 < (l0_2.length : Int)) = true := decide_eq_true c12
        clear c12
        by_cases c13 : 0 ≤ x16_1
        · rw [if_pos c13] at H
          have c13b0 : decide (0 ≤ x16_1) = true := decide_eq_true c13
          clear c13
          by_cases c14 : x16_1 < (l0_2.length : Int)
          · rw [if_pos c14] at H
            have c14b0 : decide (x16_1 < (l0_2.length : Int)) = true := decide_eq_true c14
            clear c14
            replace H := Option.bind_eq_some_iff.mp H
            obtain ⟨t456, A150, H⟩ := H
            replace H : (if t456 = true then (if x454002_1.length < 4398046511104 then (impl_Series_chosen.l0 k1 a1 l0_2 (l0_2.length : Int) (wrap64 (x16_1 + 1)) a0_0 a0_1 (x454002_1 ++ [(⟨(rd_T89 l0_2 x16_1).f0, (⟨(rd_T89 l0_2 x16_1).f1.f0, (rd_T89 l0_2 x16_1).f1.f1⟩ : S27)⟩ : S89)])) else (none)) else (impl_Series_chosen.l0 k1 a1 l0_2 (l0_2.length : Int) (wrap64 (x16_1 + 1)) a0_0 a0_1 x454002_1)) = some (r1, r2, r3) := H
            have A15 := Aside0.mk A150
            clear A150
            by_cases c16 : t456 = true
            ·subst c16
             have H1 : (if x454002_1.length < 4398046511104 then (impl_Series_chosen.l0 k1 a1 l0_2 (l0_2.length : Int) (wrap64 (x16_1 + 1)) a0_0 a0_1 (x454002_1 ++ [(⟨(rd_T89 l0_2 x16_1).f0, (⟨(rd_T89 l0_2 x16_1).f1.f0, (rd_T89 l0_2 x16_1).f1.f1⟩ : S27)⟩ : S89)])) else (none)) = some (r1, r2, r3) := by rw [if_pos rfl] at H; exact H
             clear H
             have H := H1
             clear H1
             by_cases c17 : x454002_1.length < 4398046511104
             ·rw [if_pos c17] at H
              have LMc17 := Aside0.mk c17
              clear c17
              obtain ⟨y457, hy457⟩ : ∃ y_ : List (S89), y_ = (x454002_1 ++ [(⟨(rd_T89 l0_2 x16_1).f0, (⟨(rd_T89 l0_2 x16_1).f1.f0, (rd_T89 l0_2 x16_1).f1.f1⟩ : S27)⟩ : S89)]) := ⟨_, rfl⟩
              replace H : (impl_Series_chosen.l0 k1 a1 l0_2 (l0_2.length : Int) (wrap64 (x16_1 + 1)) a0_0 a0_1 y457) = some (r1, r2, r3) := by first | (rw [hy457]; with_reducible exact H) | (have H2_ := (Option.bind_some _ _).symm.trans H; rw [hy457]; with_reducible exact H2_) | (have H2_ := (Option.bind_some _ _).symm.trans H; with_reducible exact H2_) | with_reducible exact H | (rw [hy457]; exact H) | exact H
              have Ny457 := Aside0.mk hy457
              clear hy457
              have H' := Aside0.mk H
              clear H
              have HSZ : Aside0 (((rd_T89 l0_2 x16_1).f0).size ≤ 1000) := ⟨impl_Series_chosen_size l0_2 hsz x16_1⟩
              have p454 : 0 ≤ (x16_1 : Int) := zD
              have q454 : x16_1 < (l0_2.length : Int) := zD
              obtain ⟨ad454, e454, hx454_0, hx454_1, hx454_2⟩ := at_T89 HR0_2.out x16_1 p454 q454
              cases e454
              replace hx454_0 := zH HB hx454_0
              replace hx454_1 := zH HB hx454_1
              replace hx454_2 := zH HB hx454_2
              replace p454 := eq_true p454
              replace q454 := eq_true q454
              go_wp2_with (first | ((with_reducible refine gate_dst (N := 7) rfl ?_); refine zX 7 (#[.string (⟨#[]⟩ : ByteArray), .int .i64 0, .int .i64 0]) 89 ?_; intro gb455 hg w18 hbox hb; have BK455 := Aside0.mk (hbox); have GW455 := Aside0.mk (zG : w.heap.size ≤ gb455); have GE455 := Aside0.mk (zG : w.heap.size ≤ gb455); have NB451_455 := Aside0.mk (zU BK451 hg); have NB455_451 := Aside0.mk (zV BK451 hg); have NB452_455 := Aside0.mk (zU BK452 hg); have NB455_452 := Aside0.mk (zV BK452 hg); have NB453_455 := Aside0.mk (zU BK453 hg); have NB455_453 := Aside0.mk (zV BK453 hg); replace HO_454002 := Aside0.mk (Kd.R_below (Kd.R_elderB zR gb455 (Nat.le_of_eq hg.symm)) hb); replace BK451 := Aside0.mk (zW BK451 hb); replace BK452 := Aside0.mk (zW BK452 hb); replace BK453 := Aside0.mk (zW BK453 hb); replace HB := Aside0.mk (below_step zB hb); clear hb hbox hg; have hnb19 := NB455_451.out; have hnc19 := NB451_455.out; have hnb20 := NB455_452.out; have hnc20 := NB452_455.out; have hnb21 := NB455_453.out; have hnc21 := NB453_455.out; obtain ⟨hcz22_0, hcz22_1, hcz22_2, hfz22_0, hfz22_1, hfz22_2⟩ := zC3 BK455) | (go_at_call 80; refine (impl_Series_chosen_ask a1 ((rd_T89 l0_2 x16_1).f0) true gd _ (((show Below w.heap.size w _ from by repeat (first | (with_reducible first | exact HB.out | apply below_alloc | apply pw_below_drewN | apply below_drew1 | refine below_set ?_ GE451.out | refine below_set ?_ GE452.out | refine below_set ?_ GE453.out | refine below_set ?_ GE455.out) | exact HB.out)).cell (World.block_lt_of_cell? w _ hgd)).trans hgd) HSZ.out A15.out).mono ?_; rintro e w' ⟨rfl, ⟨nd, rfl⟩⟩; have hnb23 := NB453_451.out; have hnc23 := NB451_453.out; have hnb24 := NB453_452.out; have hnc24 := NB452_453.out; obtain ⟨hcz25_0, hcz25_1, hcz25_2, hfz25_0, hfz25_1, hfz25_2⟩ := zC3 BK453) | ((with_reducible refine gate_builtin (b := .append) (xs := #[.tmp 25, .tmp 27]) rfl ?_); at_builtin; refine Kd.R_append k89 (w0 := w) w.heap.size rfl (.tmp 25) (.tmp 27) 30 89 (.agg #[(.string ⟨#[]⟩), (.int .i64 0), (.int .i64 0)]) 32 rfl Try.underlying30 info89 rfl (by decide) (by omega) u454002 x454002_1 (⟨(rd_T89 l0_2 x16_1).f0, (⟨(rd_T89 l0_2 x16_1).f1.f0, (rd_T89 l0_2 x16_1).f1.f1⟩ : S27)⟩ : S89) [.string ((rd_T89 l0_2 x16_1).f0), .int .i64 ((rd_T89 l0_2 x16_1).f1.f0), .int .i64 ((rd_T89 l0_2 x16_1).f1.f1)] (fun k_ => k_ ≠ gb455) (fun _ => False) rfl (by first | (go_simp; done) | (go_simp; rfl)) ?aP (fun _ hk => hk.elim) ?aF ?aO ?aB ?aS ?aL ?_; (case aP => exact k89_mkM _ _ _ (⟨(rd_T89 l0_2 x16_1).f0, (⟨(rd_T89 l0_2 x16_1).f1.f0, (rd_T89 l0_2 x16_1).f1.f1⟩ : S27)⟩ : S89)); (case aB => exact zB); (case aF => exact (fun k_ hk => Kd.freshB (g := gb455) (o := .cells #[.string ((rd_T89 l0_2 x16_1).f0), .int .i64 ((rd_T89 l0_2 x16_1).f1.f0), .int .i64 ((rd_T89 l0_2 x16_1).f1.f1)] 89 (0, 0)) (by (with_reducible repeat (first | refine blk_drewN ?_ _ | refine blk_drew ?_ | refine blk_alloc ?_ _)); refine blk_put (cs := #[.string ((rd_T89 l0_2 x16_1).f0), .int .i64 ((rd_T89 l0_2 x16_1).f1.f0), .int .i64 0]) ?_ 2 _ rfl; (with_reducible repeat (first | refine blk_drewN ?_ _ | refine blk_drew ?_ | refine blk_alloc ?_ _)); refine blk_put (cs := #[.string ((rd_T89 l0_2 x16_1).f0), .int .i64 0, .int .i64 0]) ?_ 1 _ rfl; (with_reducible repeat (first | refine blk_drewN ?_ _ | refine blk_drew ?_ | refine blk_alloc ?_ _)); refine blk_put (cs := #[.string (⟨#[]⟩ : ByteArray), .int .i64 0, .int .i64 0]) ?_ 0 _ rfl; exact zK) k_ hk)); (case aO => exact (by (with_reducible repeat (first | apply Kd.R_alloc | apply Kd.R_drewN | apply Kd.R_drew)); exact Kd.R_mono (Kd.R_far (p := ⟨gb455, 2, none⟩) (Kd.R_far (p := ⟨gb455, 1, none⟩) (Kd.R_far (p := ⟨gb455, 0, none⟩) (Kd.R_mono HO_454002.out (fun k_ hk => (⟨hk, hk.2⟩ : _ ∧ k_ ≠ gb455))) (fun _ hk => hk.2) (.string ((rd_T89 l0_2 x16_1).f0))) (fun _ hk => hk.2) (.int .i64 ((rd_T89 l0_2 x16_1).f1.f0))) (fun _ hk => hk.2) (.int .i64 ((rd_T89 l0_2 x16_1).f1.f1))) (fun _ hk => hk.1.2))); (case aS => exact (below_size zB)); (case aL => have := LMc17.out; omega); intro v458 w26 ho hb hg hat; rw [← Ny457.out] at ho; have HO459 := Aside0.mk (ho); replace BK451 := Aside0.mk (blk_grown (g := gb451) (o := .cells #[.int .i64 a0_0, .int .i64 a0_1, .slice (some ad454) l0_2.length c0_2] 32 (0, 0)) (by (with_reducible repeat (first | refine blk_drewN ?_ _ | refine blk_drew ?_ | refine blk_alloc ?_ _)); refine blk_far ?_ NB451_455.out _; (with_reducible repeat (first | refine blk_drewN ?_ _ | refine blk_drew ?_ | refine blk_alloc ?_ _)); refine blk_far ?_ NB451_455.out _; (with_reducible repeat (first | refine blk_drewN ?_ _ | refine blk_drew ?_ | refine blk_alloc ?_ _)); refine blk_far ?_ NB451_455.out _; exact zK) hg (Kd.R_ne HO_454002.out BK451.out (by decide))); replace BK452 := Aside0.mk (blk_grown (g := gb452) (o := .cells #[.int .i64 0, .int .i64 0, .slice none 0 0] 32 (0, 0)) (by (with_reducible repeat (first | refine blk_drewN ?_ _ | refine blk_drew ?_ | refine blk_alloc ?_ _)); refine blk_far ?_ NB452_455.out _; (with_reducible repeat (first | refine blk_drewN ?_ _ | refine blk_drew ?_ | refine blk_alloc ?_ _)); refine blk_far ?_ NB452_455.out _; (with_reducible repeat (first | refine blk_drewN ?_ _ | refine blk_drew ?_ | refine blk_alloc ?_ _)); refine blk_far ?_ NB452_455.out _; exact zK) hg (Kd.R_ne HO_454002.out BK452.out (by decide))); replace BK453 := Aside0.mk (blk_grown (g := gb453) (o := .cells #[.int .i64 a0_0, .int .i64 a0_1, u454002] 32 (0, 0)) (by (with_reducible repeat (first | refine blk_drewN ?_ _ | refine blk_drew ?_ | refine blk_alloc ?_ _)); refine blk_far ?_ NB453_455.out _; (with_reducible repeat (first | refine blk_drewN ?_ _ | refine blk_drew ?_ | refine blk_alloc ?_ _)); refine blk_far ?_ NB453_455.out _; (with_reducible repeat (first | refine blk_drewN ?_ _ | refine blk_drew ?_ | refine blk_alloc ?_ _)); refine blk_far ?_ NB453_455.out _; exact zK) hg (Kd.R_ne HO_454002.out BK453.out (by decide))); replace BK455 := Aside0.mk (blk_grown (g := gb455) (o := .cells #[.string ((rd_T89 l0_2 x16_1).f0), .int .i64 ((rd_T89 l0_2 x16_1).f1.f0), .int .i64 ((rd_T89 l0_2 x16_1).f1.f1)] 89 (0, 0)) (by (with_reducible repeat (first | refine blk_drewN ?_ _ | refine blk_drew ?_ | refine blk_alloc ?_ _)); refine blk_put (cs := #[.string ((rd_T89 l0_2 x16_1).f0), .int .i64 ((rd_T89 l0_2 x16_1).f1.f0), .int .i64 0]) ?_ 2 _ rfl; (with_reducible repeat (first | refine blk_drewN ?_ _ | refine blk_drew ?_ | refine blk_alloc ?_ _)); refine blk_put (cs := #[.string ((rd_T89 l0_2 x16_1).f0), .int .i64 0, .int .i64 0]) ?_ 1 _ rfl; (with_reducible repeat (first | refine blk_drewN ?_ _ | refine blk_drew ?_ | refine blk_alloc ?_ _)); refine blk_put (cs := #[.string (⟨#[]⟩ : ByteArray), .int .i64 0, .int .i64 0]) ?_ 0 _ rfl; exact zK) hg (Kd.R_away HO_454002.out (fun _ hk => hk.2))); replace HB := Aside0.mk (hb); clear HO_454002; clear ho hb hg hat; obtain ⟨Ao27, co27, eo27⟩ := Kd.R_slice HO459.out; subst eo27; obtain ⟨hcz28_0, hcz28_1, hcz28_2, hfz28_0, hfz28_1, hfz28_2⟩ := zC3 BK453))
              go_roundg k1
              case measure => have := HK1.out; omega
              case rel => exact ⟨(wrap64 (x16_1 + 1)), (y457), (.slice Ao27 y457.length co27), (by first | rfl | (simp; done) | (simp [*]; done)), H', ⟨by have := HK1.out; omega⟩, ⟨by (with_reducible repeat (first | apply Kd.R_alloc | apply Kd.R_drewN | apply Kd.R_drew)); exact Kd.R_mono (Kd.R_far (p := ⟨gb453, 2, none⟩) (Kd.R_types HO459.out BK453.out (by decide)) (fun _ hk => hk.2) (.slice Ao27 y457.length co27)) (fun _ hk => trivial)⟩, ⟨by (with_reducible repeat (first | refine blk_drewN ?_ _ | refine blk_drew ?_ | refine blk_alloc ?_ _)); refine blk_far ?_ NB451_453.out _; (with_reducible repeat (first | refine blk_drewN ?_ _ | refine blk_drew ?_ | refine blk_alloc ?_ _)); exact BK451.out⟩, ⟨by (with_reducible repeat (first | refine blk_drewN ?_ _ | refine blk_drew ?_ | refine blk_alloc ?_ _)); refine blk_far ?_ NB452_453.out _; (with_reducible repeat (first | refine blk_drewN ?_ _ | refine blk_drew ?_ | refine blk_alloc ?_ _)); exact BK452.out⟩, ⟨by (with_reducible repeat (first | refine blk_drewN ?_ _ | refine blk_drew ?_ | refine blk_alloc ?_ _)); refine blk_put (cs := #[.int .i64 a0_0, .int .i64 a0_1, u454002]) ?_ 2 _ rfl; (with_reducible repeat (first | refine blk_drewN ?_ _ | refine blk_drew ?_ | refine blk_alloc ?_ _)); exact BK453.out⟩, ⟨zB⟩⟩
             ·rw [if_neg c17] at H
              exact absurd H (by simp)
            ·replace c16 := Bool.eq_false_iff.mpr c16
             subst c16
             have H1 : (impl_Series_chosen.l0 k1 a1 l0_2 (l0_2.length : Int) (wrap64 (x16_1 + 1)) a0_0 a0_1 x454002_1) = some (r1, r2, r3) := by rw [if_neg (show ¬ (false = true) by decide)] at H; exact H
             clear H
             have H := H1
             clear H1
             have H' := Aside0.mk H
             clear H
             have HSZ : Aside0 (((rd_T89 l0_2 x16_1).f0).size ≤ 1000) := ⟨impl_Series_chosen_size l0_2 hsz x16_1⟩
             have p454 : 0 ≤ (x16_1 : Int) := zD
             have q454 : x16_1 < (l0_2.length : Int) := zD
             obtain ⟨ad454, e454, hx454_0, hx454_1, hx454_2⟩ := at_T89 HR0_2.out x16_1 p454 q454
             cases e454
             replace hx454_0 := zH HB hx454_0
             replace hx454_1 := zH HB hx454_1
             replace hx454_2 := zH HB hx454_2
             replace p454 := eq_true p454
             replace q454 := eq_true q454
             go_wp2_with (first | ((with_reducible refine gate_dst (N := 7) rfl ?_); refine zX 7 (#[.string (⟨#[]⟩ : ByteArray), .int .i64 0, .int .i64 0]) 89 ?_; intro gb455 hg w29 hbox hb; have BK455 := Aside0.mk (hbox); have GW455 := Aside0.mk (zG : w.heap.size ≤ gb455); have GE455 := Aside0.mk (zG : w.heap.size ≤ gb455); have NB451_455 := Aside0.mk (zU BK451 hg); have NB455_451 := Aside0.mk (zV BK451 hg); have NB452_455 := Aside0.mk (zU BK452 hg); have NB455_452 := Aside0.mk (zV BK452 hg); have NB453_455 := Aside0.mk (zU BK453 hg); have NB455_453 := Aside0.mk (zV BK453 hg); replace HO_454002 := Aside0.mk (Kd.R_below (Kd.R_elderB zR gb455 (Nat.le_of_eq hg.symm)) hb); replace BK451 := Aside0.mk (zW BK451 hb); replace BK452 := Aside0.mk (zW BK452 hb); replace BK453 := Aside0.mk (zW BK453 hb); replace HB := Aside0.mk (below_step zB hb); clear hb hbox hg; have hnb30 := NB455_451.out; have hnc30 := NB451_455.out; have hnb31 := NB455_452.out; have hnc31 := NB452_455.out; have hnb32 := NB455_453.out; have hnc32 := NB453_455.out; obtain ⟨hcz33_0, hcz33_1, hcz33_2, hfz33_0, hfz33_1, hfz33_2⟩ := zC3 BK455) | (go_at_call 80; refine (impl_Series_chosen_ask a1 ((rd_T89 l0_2 x16_1).f0) false gd _ (((show Below w.heap.size w _ from by repeat (first | (with_reducible first | exact HB.out | apply below_alloc | apply pw_below_drewN | apply below_drew1 | refine below_set ?_ GE451.out | refine below_set ?_ GE452.out | refine below_set ?_ GE453.out | refine below_set ?_ GE455.out) | exact HB.out)).cell (World.block_lt_of_cell? w _ hgd)).trans hgd) HSZ.out A15.out).mono ?_; rintro e w' ⟨rfl, ⟨nd, rfl⟩⟩))
             go_roundg k1
             case measure => have := HK1.out; omega
             case rel => exact ⟨(wrap64 (x16_1 + 1)), (x454002_1), (u454002), (by first | rfl | (simp; done) | (simp [*]; done)), H', ⟨by have := HK1.out; omega⟩, ⟨by (with_reducible repeat (first | apply Kd.R_alloc | apply Kd.R_drewN | apply Kd.R_drew)); exact Kd.R_mono (Kd.R_far (p := ⟨gb455, 2, none⟩) (Kd.R_far (p := ⟨gb455, 1, none⟩) (Kd.R_far (p := ⟨gb455, 0, none⟩) (Kd.R_mono HO_454002.out (fun k_ hk => (⟨hk, hk.2⟩ : _ ∧ k_ ≠ gb455))) (fun _ hk => hk.2) (.string ((rd_T89 l0_2 x16_1).f0))) (fun _ hk => hk.2) (.int .i64 ((rd_T89 l0_2 x16_1).f1.f0))) (fun _ hk => hk.2) (.int .i64 ((rd_T89 l0_2 x16_1).f1.f1))) (fun _ hk => trivial)⟩, ⟨by (with_reducible repeat (first | refine blk_drewN ?_ _ | refine blk_drew ?_ | refine blk_alloc ?_ _)); refine blk_far ?_ NB451_455.out _; (with_reducible repeat (first | refine blk_drewN ?_ _ | refine blk_drew ?_ | refine blk_alloc ?_ _)); refine blk_far ?_ NB451_455.out _; (with_reducible repeat (first | refine blk_drewN ?_ _ | refine blk_drew ?_ | refine blk_alloc ?_ _)); refine blk_far ?_ NB451_455.out _; (with_reducible repeat (first | refine blk_drewN ?_ _ | refine blk_drew ?_ | refine blk_alloc ?_ _)); exact BK451.out⟩, ⟨by (with_reducible repeat (first | refine blk_drewN ?_ _ | refine blk_drew ?_ | refine blk_alloc ?_ _)); refine blk_far ?_ NB452_455.out _; (with_reducible repeat (first | refine blk_drewN ?_ _ | refine blk_drew ?_ | refine blk_alloc ?_ _)); refine blk_far ?_ NB452_455.out _; (with_reducible repeat (first | refine blk_drewN ?_ _ | refine blk_drew ?_ | refine blk_alloc ?_ _)); refine blk_far ?_ NB452_455.out _; (with_reducible repeat (first | refine blk_drewN ?_ _ | refine blk_drew ?_ | refine blk_alloc ?_ _)); exact BK452.out⟩, ⟨by (with_reducible repeat (first | refine blk_drewN ?_ _ | refine blk_drew ?_ | refine blk_alloc ?_ _)); refine blk_far ?_ NB453_455.out _; (with_reducible repeat (first | refine blk_drewN ?_ _ | refine blk_drew ?_ | refine blk_alloc ?_ _)); refine blk_far ?_ NB453_455.out _; (with_reducible repeat (first | refine blk_drewN ?_ _ | refine blk_drew ?_ | refine blk_alloc ?_ _)); refine blk_far ?_ NB453_455.out _; (with_reducible repeat (first | refine blk_drewN ?_ _ | refine blk_drew ?_ | refine blk_alloc ?_ _)); exact BK453.out⟩, ⟨zB⟩⟩
          · rw [if_neg c14] at H
            exact absurd H (by simp)
        · rw [if_neg c13] at H
          exact absurd H (by simp)
      · rw [if_neg c12] at H
        have c12b0 : decide (x16_1 < (l0_2.length : Int)) = false := decide_eq_false c12
        clear c12
        simp only [Option.some.injEq, Prod.mk.injEq] at H
        obtain ⟨rfl, rfl, rfl⟩ := H
        have hnb34 := NB453_451.out
        have hnc34 := NB451_453.out
        have hnb35 := NB453_452.out
        have hnc35 := NB452_453.out
        obtain ⟨hcz36_0, hcz36_1, hcz36_2, hfz36_0, hfz36_1, hfz36_2⟩ := zC3 BK453
        have hnb37 := NB452_451.out
        have hnc37 := NB451_452.out
        obtain ⟨hcz38_0, hcz38_1, hcz38_2, hfz38_0, hfz38_1, hfz38_2⟩ := zC3 BK452
        obtain ⟨Ao39, co39, eo39⟩ := Kd.R_slice HO_454002.out
        subst eo39
        go_wp2
        refine bodyPost_ret (results_cell_row rfl _ _ gb452 32 #[.int .i64 a0_0, .int .i64 a0_1, .slice Ao39 x454002_1.length co39] (0, 0) _ rfl (by (with_reducible repeat (first | refine blk_drewN ?_ _ | refine blk_drew ?_ | refine blk_alloc ?_ _)); refine blk_put (cs := #[.int .i64 a0_0, .int .i64 a0_1, .slice none 0 0]) ?_ 2 _ rfl; (with_reducible repeat (first | refine blk_drewN ?_ _ | refine blk_drew ?_ | refine blk_alloc ?_ _)); refine blk_put (cs := #[.int .i64 a0_0, .int .i64 0, .slice none 0 0]) ?_ 1 _ rfl; (with_reducible repeat (first | refine blk_drewN ?_ _ | refine blk_drew ?_ | refine blk_alloc ?_ _)); refine blk_put (cs := #[.int .i64 0, .int .i64 0, .slice none 0 0]) ?_ 0 _ rfl; exact zK) Try.underlying32 rfl (by kernel_rfl)) rfl ?_
        exact ⟨_, by first | rfl | (simp [errW_none, errW_some] <;> rfl) | (simp [*, errW_none, errW_some] <;> rfl), by (with_reducible repeat (first | apply Kd.R_alloc | apply Kd.R_drewN | apply Kd.R_drew)); exact Kd.R_mono (Kd.R_far (p := ⟨gb452, 2, none⟩) (Kd.R_far (p := ⟨gb452, 1, none⟩) (Kd.R_far (p := ⟨gb452, 0, none⟩) (Kd.R_types HO_454002.out BK452.out (by decide)) (fun _ hk => hk.2) (.int .i64 a0_0)) (fun _ hk => hk.2) (.int .i64 a0_1)) (fun _ hk => hk.2) (.slice Ao39 x454002_1.length co39)) (fun _ hk => trivial), zB⟩




/-! ### impl_LeadingPart: function 37, by hand -/
/-- The part of a signature of the least length that is not 0. -/
def impl_LeadingPart.f (k : Nat) (a0 : Int) (a1 : Int) (l2 : List Int) : Option (Int × Int × (List (S89)) × Int) := ((impl_SignatureOfWord.f k a0 a1 l2).bind fun x => if x.2.2.2 = 0 then (impl_DepthOfWord.f k a0 a1 l2).bind fun q => (if ∀ t ∈ x.2.2.1, t.f0.size ≤ 1000 then (impl_Series_chosen.f k x.1 x.2.1 x.2.2.1 q.1).bind fun y => some (y.1, y.2.1, y.2.2, (0 : Int)) else none) else some (0, 0, ([] : List (S89)), x.2.2.2))
theorem impl_LeadingPart.mono : ∀ a0 a1 a2 k, LeO (impl_LeadingPart.f k a0 a1 a2) (impl_LeadingPart.f (k + 1) a0 a1 a2) := by
  intro a0 a1 a2 k
  unfold impl_LeadingPart.f
  exact LeO.bind (impl_SignatureOfWord.mono _ _ _ _) (fun x => LeO.ite (LeO.bind (impl_DepthOfWord.mono _ _ _ _) (fun q => LeO.ite (LeO.bind (impl_Series_chosen.mono _ _ _ _ _) (fun y => LeO.refl _)) (LeO.refl _))) (LeO.refl _))
set_option maxHeartbeats 8000000 in
set_option maxRecDepth 100000 in
theorem impl_LeadingPart.calls (k : Nat) (a0 : Int) (a1 : Int) (A2 : Option Addr) (c2 : Nat) (l2 : List Int) (r1 : Int) (r2 : Int) (r3 : List (S89)) (r4 : Int) (w : World) (hr2 : Kd.C (Kd.int .i64) w A2 l2.length l2) (hc2 : l2.length ≤ c2) (h : impl_LeadingPart.f k a0 a1 l2 = some (r1, r2, r3, r4)) :
    Calls Try.prog 37 #[.int .i64 a0, .int .i64 a1, .slice A2 l2.length c2] w fun e w' => ∃ v2_ : Value, e = .returned (.tuple #[.agg #[.int .i64 r1, .int .i64 r2, v2_], .int .i64 r4]) ∧ Kd.R k89 89 w' w.heap.size (fun _ => True) v2_ r3 ∧ Below w.heap.size w w' := by
  have hu32 := Try.underlying32
  have HR2 := Aside0.mk hr2
  have HC2 := Aside0.mk hc2
  clear hr2 hc2
  have HB := Aside0.mk (Below.refl w.heap.size w)
  have H : ((impl_SignatureOfWord.f k a0 a1 l2).bind fun x => if x.2.2.2 = 0 then (impl_DepthOfWord.f k a0 a1 l2).bind fun q => (if ∀ t ∈ x.2.2.1, t.f0.size ≤ 1000 then (impl_Series_chosen.f k x.1 x.2.1 x.2.2.1 q.1).bind fun y => some (y.1, y.2.1, y.2.2, (0 : Int)) else none) else some (0, 0, ([] : List (S89)), x.2.2.2)) = some (r1, r2, r3, r4) := h
  clear h
  replace H := Option.bind_eq_some_iff.mp H
  obtain ⟨⟨t461, t462, t463, t466⟩, A40, H⟩ := H
  dsimp only at H
  have A4 := Aside0.mk A40
  clear A40
  by_cases c5 : t466 = 0
  · rw [if_pos c5] at H
    have c5b0 : (t466 == 0) = true := beq_iff_eq.mpr c5
    have c5b1 : (t466 != 0) = false := bne_eq_false_iff_eq.mpr c5
    clear c5
    replace H := Option.bind_eq_some_iff.mp H
    obtain ⟨⟨t468, t469⟩, A60, H⟩ := H
    dsimp only at H
    have A6 := Aside0.mk A60
    clear A60
    by_cases csz : ∀ t ∈ t463, t.f0.size ≤ 1000
    · rw [if_pos csz] at H
      have HSZ := Aside0.mk csz
      clear csz
      replace H := Option.bind_eq_some_iff.mp H
      obtain ⟨⟨t470, t471, t472⟩, A80, H⟩ := H
      dsimp only at H
      have A8 := Aside0.mk A80
      clear A80
      simp only [Option.some.injEq, Prod.mk.injEq] at H
      obtain ⟨rfl, rfl, rfl, rfl⟩ := H
      go_enter Try.func37, Try.ntmps37
      go_wp2_with (first | ((with_reducible refine gate_dst (N := 6) rfl ?_); refine box_event ?hg (N := 6) ?hd (cs := #[.int .i64 0, .int .i64 0, .slice none 0 0]) (t := 32) ?hr ?_; (case hd => rfl); (case hg => rfl); (case hr => first | (go_simp; done) | (go_simp; rfl)); intro gb460 hg w9 hbox hb; have n0_ := Aside0.mk (below_step zB hb); have n1_ := Aside0.mk (hbox); have n2_ := Aside0.mk (zG : w.heap.size ≤ gb460); have n3_ := Aside0.mk (zG : w.heap.size ≤ gb460); clear HB; have HB := n0_; have BK460 := n1_; have GW460 := n2_; have GE460 := n3_; clear n0_ n1_ n2_ n3_; clear hb hbox hg) | ((with_reducible refine gate_callee (f := 33) rfl ?_); refine goesL_ (some 16) rfl rfl Try.func33 (by kernel_rfl) rfl #[.int .i64 a0, .int .i64 a1, .slice A2 l2.length c2] rfl zM ?_; (with_reducible refine (impl_SignatureOfWord.calls k a0 a1 _ _ l2 t461 t462 t463 t466 _ ?side1 ?side2 A4.out).mono ?_); (case side1 => repeat (first | exact (Kd.C_below HR2.out HB.out) | (with_reducible refine Kd.C_alloc ?_ _) | (with_reducible refine Kd.C_drewN ?_ _) | (with_reducible refine Kd.C_drew ?_))); (case side2 => exact HC2.out); rintro e w10 ⟨v464, rfl, ho0, hb⟩; refine ⟨_, rfl, ?_⟩; have n0_ := Aside0.mk (Kd.R_lower ho0 (below_size zB)); have n1_ := Aside0.mk (blk_below (g := gb460) (o := .cells #[.int .i64 0, .int .i64 0, .slice none 0 0] 32 (0, 0)) zK hb); have n2_ := Aside0.mk (below_step zB hb); clear BK460; clear HB; have HO465 := n0_; have BK460 := n1_; have HB := n2_; clear n0_ n1_ n2_; (try clear hb); (try clear hb2); (try clear hk); (try clear hi); (try clear ho0)) | ((with_reducible refine gate_dst (N := 8) rfl ?_); refine box_event ?hg (N := 8) ?hd (cs := #[.int .i64 0, .int .i64 0, .slice none 0 0]) (t := 32) ?hr ?_; (case hd => rfl); (case hg => rfl); (case hr => first | (go_simp; done) | (go_simp; rfl)); intro gb467 hg w11 hbox hb; have n0_ := Aside0.mk (Kd.R_below (by (with_reducible repeat (first | apply Kd.R_alloc | apply Kd.R_drewN | apply Kd.R_drew)); exact HO465.out) hb); have n1_ := Aside0.mk (blk_below (g := gb460) (o := .cells #[.int .i64 0, .int .i64 0, .slice none 0 0] 32 (0, 0)) zK hb); have n2_ := Aside0.mk (below_step zB hb); have n3_ := Aside0.mk (hbox); have n4_ := Aside0.mk (zG : w.heap.size ≤ gb467); have n5_ := Aside0.mk (zG : w.heap.size ≤ gb467); have n6_ := Aside0.mk ((by rw [hg]; exact Nat.ne_of_lt (blk_lt (g := gb460) (o := .cells #[.int .i64 0, .int .i64 0, .slice none 0 0] 32 (0, 0)) zK) : gb460 ≠ gb467)); have n7_ := Aside0.mk ((by rw [hg]; exact Nat.ne_of_gt (blk_lt (g := gb460) (o := .cells #[.int .i64 0, .int .i64 0, .slice none 0 0] 32 (0, 0)) zK) : gb467 ≠ gb460)); clear HO465; clear BK460; clear HB; have HO465 := n0_; have BK460 := n1_; have HB := n2_; have BK467 := n3_; have GW467 := n4_; have GE467 := n5_; have NB460_467 := n6_; have NB467_460 := n7_; clear n0_ n1_ n2_ n3_ n4_ n5_ n6_ n7_; clear hb hbox hg; have hnb12 := NB467_460.out; have hnc12 := NB460_467.out; have hcz13_0 : w11.cell? ⟨gb467, 0, none⟩ = some (.int .i64 0) := zE BK467; have hcz13_1 : w11.cell? ⟨gb467, 1, none⟩ = some (.int .i64 0) := zE BK467; have hcz13_2 : w11.cell? ⟨gb467, 2, none⟩ = some (.slice none 0 0) := zE BK467; have hfz13_0 := blk_frozen BK467.out 0; have hfz13_1 := blk_frozen BK467.out 1; have hfz13_2 := blk_frozen BK467.out 2; obtain ⟨Ao14, co14, eo14⟩ := Kd.R_slice HO465.out; subst eo14) | ((with_reducible refine gate_callee (f := 30) rfl ?_); refine goesL_ (some 27) rfl rfl Try.func30 (by kernel_rfl) rfl #[.int .i64 a0, .int .i64 a1, .slice A2 l2.length c2] rfl zM ?_; (with_reducible refine (impl_DepthOfWord.calls k a0 a1 _ _ l2 t468 t469 _ ?side1 ?side2 A6.out).mono ?_); (case side1 => exact Kd.C_below HR2.out zB); (case side2 => exact HC2.out); rintro e w15 ⟨rfl, hb⟩; refine ⟨_, rfl, ?_⟩; have n0_ := Aside0.mk (Kd.R_below (by (with_reducible repeat (first | apply Kd.R_alloc | apply Kd.R_drewN | apply Kd.R_drew)); exact (Kd.R_mono (Kd.R_far (p := ⟨gb467, 2, none⟩) (Kd.R_far (p := ⟨gb467, 1, none⟩) (Kd.R_far (p := ⟨gb467, 0, none⟩) (Kd.R_types HO465.out BK467.out (by decide)) (fun _ hk => hk.2) (.int .i64 t461)) (fun _ hk => hk.2) (.int .i64 t462)) (fun _ hk => hk.2) (.slice Ao14 t463.length co14)) (fun _ h_ => h_.1))) hb); have n1_ := Aside0.mk (blk_below (g := gb460) (o := .cells #[.int .i64 0, .int .i64 0, .slice none 0 0] 32 (0, 0)) (by (with_reducible repeat (first | refine blk_drewN ?_ _ | refine blk_drew ?_ | refine blk_alloc ?_ _)); refine blk_far ?_ NB460_467.out _; (with_reducible repeat (first | refine blk_drewN ?_ _ | refine blk_drew ?_ | refine blk_alloc ?_ _)); refine blk_far ?_ NB460_467.out _; (with_reducible repeat (first | refine blk_drewN ?_ _ | refine blk_drew ?_ | refine blk_alloc ?_ _)); refine blk_far ?_ NB460_467.out _; exact zK) hb); have n2_ := Aside0.mk (blk_below (g := gb467) (o := .cells #[.int .i64 t461, .int .i64 t462, .slice Ao14 t463.length co14] 32 (0, 0)) (by (with_reducible repeat (first | refine blk_drewN ?_ _ | refine blk_drew ?_ | refine blk_alloc ?_ _)); refine blk_put (cs := #[.int .i64 t461, .int .i64 t462, .slice none 0 0]) ?_ 2 _ rfl; (with_reducible repeat (first | refine blk_drewN ?_ _ | refine blk_drew ?_ | refine blk_alloc ?_ _)); refine blk_put (cs := #[.int .i64 t461, .int .i64 0, .slice none 0 0]) ?_ 1 _ rfl; (with_reducible repeat (first | refine blk_drewN ?_ _ | refine blk_drew ?_ | refine blk_alloc ?_ _)); refine blk_put (cs := #[.int .i64 0, .int .i64 0, .slice none 0 0]) ?_ 0 _ rfl; exact zK) hb); have n3_ := Aside0.mk (below_step zB hb); clear HO465; clear BK460; clear BK467; clear HB; have HO465 := n0_; have BK460 := n1_; have BK467 := n2_; have HB := n3_; clear n0_ n1_ n2_ n3_; (try clear hb); (try clear hb2); (try clear hk); (try clear hi); have hcz16_0 : w15.cell? ⟨gb467, 0, none⟩ = some (.int .i64 t461) := zE BK467; have hcz16_1 : w15.cell? ⟨gb467, 1, none⟩ = some (.int .i64 t462) := zE BK467; have hcz16_2 : w15.cell? ⟨gb467, 2, none⟩ = some (.slice Ao14 t463.length co14) := zE BK467; have hfz16_0 := blk_frozen BK467.out 0; have hfz16_1 := blk_frozen BK467.out 1; have hfz16_2 := blk_frozen BK467.out 2) | ((with_reducible refine gate_dst (N := 10) rfl ?_); refine box_event ?hg (N := 10) ?hd (cs := #[.int .i64 0]) (t := 2) ?hr ?_; (case hd => rfl); (case hg => rfl); (case hr => first | (go_simp; done) | (go_simp; rfl)); intro gb900 hg w99 hbox hb; have n0_ := Aside0.mk (Kd.R_below (by (with_reducible repeat (first | apply Kd.R_alloc | apply Kd.R_drewN | apply Kd.R_drew)); exact HO465.out) hb); have n1_ := Aside0.mk (blk_below (g := gb460) (o := .cells #[.int .i64 0, .int .i64 0, .slice none 0 0] 32 (0, 0)) zK hb); have n2_ := Aside0.mk (blk_below (g := gb467) (o := .cells #[.int .i64 t461, .int .i64 t462, .slice Ao14 t463.length co14] 32 (0, 0)) zK hb); have n3_ := Aside0.mk (below_step zB hb); have n4_ := Aside0.mk hbox; have n5_ := Aside0.mk ((by rw [hg]; exact (below_size zB)) : w.heap.size ≤ gb900); have n6_ := Aside0.mk ((by rw [hg]; exact Nat.ne_of_lt (blk_lt (g := gb460) (o := .cells #[.int .i64 0, .int .i64 0, .slice none 0 0] 32 (0, 0)) zK)) : gb460 ≠ gb900); have n7_ := Aside0.mk ((by rw [hg]; exact Nat.ne_of_lt (blk_lt (g := gb467) (o := .cells #[.int .i64 t461, .int .i64 t462, .slice Ao14 t463.length co14] 32 (0, 0)) zK)) : gb467 ≠ gb900); clear HO465 BK460 BK467 HB; have HO465 := n0_; have BK460 := n1_; have BK467 := n2_; have HB := n3_; have BK900 := n4_; have GE900 := n5_; have NB460_900 := n6_; have NB467_900 := n7_; clear n0_ n1_ n2_ n3_ n4_ n5_ n6_ n7_ hb hbox hg; have hnb90 := NB467_900.out; have hnc90 := NB467_900.out.symm; have hnb91 := NB460_900.out; have hnc91 := NB460_900.out.symm; have hcz90_0 : w99.cell? ⟨gb900, 0, none⟩ = some (.int .i64 0) := zE BK900; have hfz90_0 := blk_frozen BK900.out 0; have hcz91_0 : w99.cell? ⟨gb467, 0, none⟩ = some (.int .i64 t461) := zE BK467; have hcz91_1 : w99.cell? ⟨gb467, 1, none⟩ = some (.int .i64 t462) := zE BK467; have hcz91_2 : w99.cell? ⟨gb467, 2, none⟩ = some (.slice Ao14 t463.length co14) := zE BK467; have hfz91_0 := blk_frozen BK467.out 0; have hfz91_1 := blk_frozen BK467.out 1; have hfz91_2 := blk_frozen BK467.out 2) | (go_at_call 79; (with_reducible refine (impl_Series_chosen.calls k t461 t462 _ _ t463 t468 gb900 t470 t471 t472 _ ?side1 ?side2 ?side3 HSZ.out A8.out).mono ?_); (case side1 => repeat (first | exact (Kd.R_reads' (Kd.R_mono (Kd.R_far (p := ⟨gb900, 0, none⟩) (Kd.R_types HO465.out BK900.out (by decide)) (fun _ hk => hk.2) (.int .i64 t468)) (fun _ h_ => h_.1))).2.2 | (with_reducible refine Kd.C_alloc ?_ _) | (with_reducible refine Kd.C_drewN ?_ _) | (with_reducible refine Kd.C_drew ?_))); (case side2 => exact (Kd.R_reads' HO465.out).2.1); (case side3 => exact (blk_cell (g := gb900) (t := 2) (cs := #[.int .i64 t468]) (by (with_reducible repeat (first | refine blk_drewN ?_ _ | refine blk_drew ?_ | refine blk_alloc ?_ _)); refine blk_put (cs := #[.int .i64 0]) ?_ 0 _ rfl; exact zK) 0).trans rfl); rintro e w17 ⟨v473, rfl, ho0, hb⟩; have n0_ := Aside0.mk (Kd.R_elder' (by (with_reducible repeat (first | apply Kd.R_alloc | apply Kd.R_drewN | apply Kd.R_drew)); exact (Kd.R_mono (Kd.R_far (p := ⟨gb900, 0, none⟩) (Kd.R_types HO465.out BK900.out (by decide)) (fun _ hk => hk.2) (.int .i64 t468)) (fun _ h_ => h_.1))) (Kd.R_base ho0) hb); have n1_ := Aside0.mk (Kd.R_lower (Kd.R_new' ho0 (Kd.R_lt (by (with_reducible repeat (first | apply Kd.R_alloc | apply Kd.R_drewN | apply Kd.R_drew)); exact (Kd.R_mono (Kd.R_far (p := ⟨gb900, 0, none⟩) (Kd.R_types HO465.out BK900.out (by decide)) (fun _ hk => hk.2) (.int .i64 t468)) (fun _ h_ => h_.1))))) (below_size zB)); have n2_ := Aside0.mk (blk_below (g := gb460) (o := .cells #[.int .i64 0, .int .i64 0, .slice none 0 0] 32 (0, 0)) (by (with_reducible repeat (first | refine blk_drewN ?_ _ | refine blk_drew ?_ | refine blk_alloc ?_ _)); refine blk_far ?_ NB460_900.out _; exact zK) hb); have n3_ := Aside0.mk (blk_below (g := gb467) (o := .cells #[.int .i64 t461, .int .i64 t462, .slice Ao14 t463.length co14] 32 (0, 0)) (by (with_reducible repeat (first | refine blk_drewN ?_ _ | refine blk_drew ?_ | refine blk_alloc ?_ _)); refine blk_far ?_ NB467_900.out _; exact zK) hb); have n4_ := Aside0.mk (below_step zB hb); clear HO465; clear BK460; clear BK467; clear HB; have HO465 := n0_; have HO474 := n1_; have BK460 := n2_; have BK467 := n3_; have HB := n4_; clear n0_ n1_ n2_ n3_ n4_; (try clear hb); (try clear hb2); (try clear hk); (try clear hi); (try clear ho0); have hcz18_0 : w17.cell? ⟨gb460, 0, none⟩ = some (.int .i64 0) := zE BK460; have hcz18_1 : w17.cell? ⟨gb460, 1, none⟩ = some (.int .i64 0) := zE BK460; have hcz18_2 : w17.cell? ⟨gb460, 2, none⟩ = some (.slice none 0 0) := zE BK460; have hfz18_0 := blk_frozen BK460.out 0; have hfz18_1 := blk_frozen BK460.out 1; have hfz18_2 := blk_frozen BK460.out 2; obtain ⟨Ao19, co19, eo19⟩ := Kd.R_slice HO474.out; subst eo19))
      refine bodyPost_ret (results_ct rfl _ _ gb460 32 #[.int .i64 t470, .int .i64 t471, .slice Ao19 t472.length co19] (0, 0) _ rfl (by (with_reducible repeat (first | refine blk_drewN ?_ _ | refine blk_drew ?_ | refine blk_alloc ?_ _)); refine blk_put (cs := #[.int .i64 t470, .int .i64 t471, .slice none 0 0]) ?_ 2 _ rfl; (with_reducible repeat (first | refine blk_drewN ?_ _ | refine blk_drew ?_ | refine blk_alloc ?_ _)); refine blk_put (cs := #[.int .i64 t470, .int .i64 0, .slice none 0 0]) ?_ 1 _ rfl; (with_reducible repeat (first | refine blk_drewN ?_ _ | refine blk_drew ?_ | refine blk_alloc ?_ _)); refine blk_put (cs := #[.int .i64 0, .int .i64 0, .slice none 0 0]) ?_ 0 _ rfl; exact zK) Try.underlying32 rfl (by kernel_rfl)) rfl ?_
      exact ⟨_, by first | rfl | (simp [errW_none, errW_some] <;> rfl) | (simp [*, errW_none, errW_some] <;> rfl), by (with_reducible repeat (first | apply Kd.R_alloc | apply Kd.R_drewN | apply Kd.R_drew)); exact Kd.R_mono (Kd.R_far (p := ⟨gb460, 2, none⟩) (Kd.R_far (p := ⟨gb460, 1, none⟩) (Kd.R_far (p := ⟨gb460, 0, none⟩) (Kd.R_types HO474.out BK460.out (by decide)) (fun _ hk => hk.2) (.int .i64 t470)) (fun _ hk => hk.2) (.int .i64 t471)) (fun _ hk => hk.2) (.slice Ao19 t472.length co19)) (fun _ hk => trivial), zB⟩
    · rw [if_neg csz] at H
      exact absurd H (by simp)
  · rw [if_neg c5] at H
    have c5b0 : (t466 == 0) = false := beq_eq_false_iff_ne.mpr c5
    have c5b1 : (t466 != 0) = true := bne_iff_ne.mpr c5
    simp only [Option.some.injEq, Prod.mk.injEq] at H
    obtain ⟨rfl, rfl, rfl, rfl⟩ := H
    go_enter Try.func37, Try.ntmps37
    go_wp2_with (first | ((with_reducible refine gate_dst (N := 6) rfl ?_); refine zX 6 (#[.int .i64 0, .int .i64 0, .slice none 0 0]) 32 ?_; intro gb460 hg w32 hbox hb; have BK460 := Aside0.mk (hbox); have GW460 := Aside0.mk (zG : w.heap.size ≤ gb460); have GE460 := Aside0.mk (zG : w.heap.size ≤ gb460); replace HB := Aside0.mk (below_step zB hb); clear hb hbox hg) | ((with_reducible refine gate_callee (f := 33) rfl ?_); refine goesL_ (some 16) rfl rfl Try.func33 (by kernel_rfl) rfl #[.int .i64 a0, .int .i64 a1, .slice A2 l2.length c2] rfl zM ?_; (with_reducible refine (impl_SignatureOfWord.calls k a0 a1 _ _ l2 t461 t462 t463 t466 _ ?side1 ?side2 A4.out).mono ?_); (case side1 => repeat (first | exact (Kd.C_below HR2.out HB.out) | (with_reducible refine Kd.C_alloc ?_ _) | (with_reducible refine Kd.C_drewN ?_ _) | (with_reducible refine Kd.C_drew ?_))); (case side2 => exact HC2.out); rintro e w33 ⟨v464, rfl, ho0, hb⟩; refine ⟨_, rfl, ?_⟩; have HO465 := Aside0.mk (Kd.R_lower ho0 (below_size zB)); replace BK460 := Aside0.mk (zW BK460 hb); replace HB := Aside0.mk (below_step zB hb); (try clear hb); (try clear hb2); (try clear hk); (try clear hi); (try clear ho0)) | ((with_reducible refine gate_dst (N := 8) rfl ?_); refine zX 8 (#[.int .i64 0, .int .i64 0, .slice none 0 0]) 32 ?_; intro gb467 hg w34 hbox hb; have BK467 := Aside0.mk (hbox); have GW467 := Aside0.mk (zG : w.heap.size ≤ gb467); have GE467 := Aside0.mk (zG : w.heap.size ≤ gb467); have NB460_467 := Aside0.mk (zU BK460 hg); have NB467_460 := Aside0.mk (zV BK460 hg); replace HO465 := Aside0.mk (Kd.R_below HO465.out hb); replace BK460 := Aside0.mk (zW BK460 hb); replace HB := Aside0.mk (below_step zB hb); clear hb hbox hg; have hnb35 := NB467_460.out; have hnc35 := NB460_467.out; obtain ⟨hcz36_0, hcz36_1, hcz36_2, hfz36_0, hfz36_1, hfz36_2⟩ := zC3 BK467; obtain ⟨Ao37, co37, eo37⟩ := Kd.R_slice HO465.out; subst eo37; obtain ⟨hcz38_0, hcz38_1, hcz38_2, hfz38_0, hfz38_1, hfz38_2⟩ := zC3 BK460))
    refine bodyPost_ret (results_ct rfl _ _ gb460 32 #[.int .i64 0, .int .i64 0, .slice none 0 0] (0, 0) _ rfl (by (with_reducible repeat (first | refine blk_drewN ?_ _ | refine blk_drew ?_ | refine blk_alloc ?_ _)); refine blk_put (cs := #[.int .i64 0, .int .i64 0, .slice none 0 0]) ?_ 2 _ rfl; (with_reducible repeat (first | refine blk_drewN ?_ _ | refine blk_drew ?_ | refine blk_alloc ?_ _)); refine blk_put (cs := #[.int .i64 0, .int .i64 0, .slice none 0 0]) ?_ 1 _ rfl; (with_reducible repeat (first | refine blk_drewN ?_ _ | refine blk_drew ?_ | refine blk_alloc ?_ _)); refine blk_put (cs := #[.int .i64 0, .int .i64 0, .slice none 0 0]) ?_ 0 _ rfl; (with_reducible repeat (first | refine blk_drewN ?_ _ | refine blk_drew ?_ | refine blk_alloc ?_ _)); refine blk_far ?_ NB460_467.out _; (with_reducible repeat (first | refine blk_drewN ?_ _ | refine blk_drew ?_ | refine blk_alloc ?_ _)); refine blk_far ?_ NB460_467.out _; (with_reducible repeat (first | refine blk_drewN ?_ _ | refine blk_drew ?_ | refine blk_alloc ?_ _)); refine blk_far ?_ NB460_467.out _; exact zK) Try.underlying32 rfl (by kernel_rfl)) rfl ?_
    exact ⟨_, by first | rfl | (simp [errW_none, errW_some] <;> rfl) | (simp [*, errW_none, errW_some] <;> rfl), by first | exact Kd.R_nil _ _ _ _ _ | exact Kd.N_nil _ _ _ _ _ | exact Kd.V_nil _ _ _ _ _ | exact Kd.Q_nil _ _ _ _ _ | exact Kd.S_nil _ _ _ _ _, zB⟩



end Go.Proofs.Ytcklefgkbddlhaa.P
