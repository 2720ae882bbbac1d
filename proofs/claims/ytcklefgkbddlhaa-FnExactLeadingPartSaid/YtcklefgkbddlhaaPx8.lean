/- What a call of each Go function named below comes to is what the plain Lean function beside it says. Made by a program of this session out of the print of the translation; Lean checks it. -/
import Derived.Test.YtcklefgkbddlhaaPx0
import Derived.Test.YtcklefgkbddlhaaPx4
import Derived.Test.YtcklefgkbddlhaaPx7
namespace Go.Proofs.Ytcklefgkbddlhaa.P
open Go.RowKit Go.Proofs.YtcklefgkbddlhaaW.PrintWords Go.Proofs.YtcklefgkbddlhaaW.PrintLast Go.Proofs.YtcklefgkbddlhaaW.PrintMore
attribute [local go_sem] max2_int min2_int max_two min_two max_three min_three max_four min_four   -- for this text's walks alone
set_option linter.unusedVariables false
set_option linter.unusedSimpArgs false


/-! ### spec_l09Signature: function 70 -/
def spec_l09Signature.l0 : Nat → List Int → Int → Int → Int → List (S89) → Option (Int × Int × (List (S89)))
  | 0, _, _, _, _, _ => none
  | k + 1, x2, x8, x254000, x254001, x254002 => if x8 < (x2.length : Int) then (if 0 ≤ x8 then ((spec_l09Step.f k x254000 x254001 x254002 (rd x2 x8)).bind fun bt255 => (spec_l09Signature.l0 k x2 (wrap64 (x8 + 1)) bt255.1 bt255.2.1 bt255.2.2)) else (none)) else (some (x254000, x254001, x254002))
def spec_l09Signature.f (k : Nat) (a0 : Int) (a1 : Int) (l2 : List Int) : Option (Int × Int × (List (S89))) := (spec_l01One.f a0 a1 (⟨#[]⟩ : ByteArray)).bind fun bt248 => (spec_l09Signature.l0 k l2 0 bt248.1 bt248.2.1 bt248.2.2)
theorem spec_l09Signature.mono_l : ∀ k, (∀ y0 y1 y2 y3 y4, LeO (spec_l09Signature.l0 k y0 y1 y2 y3 y4) (spec_l09Signature.l0 (k + 1) y0 y1 y2 y3 y4))
  | 0 => fun _ _ _ _ _ r h => by simp [spec_l09Signature.l0] at h
  | k + 1 => by
    have ih0 := spec_l09Signature.mono_l k
    · intro y0 y1 y2 y3 y4
      unfold spec_l09Signature.l0
      repeat' first
      | (with_reducible exact ih0 _ _ _ _ _)
      | (with_reducible exact spec_l09Step.mono _ _ _ _ _)
      | (with_reducible exact LeO.refl _)
      | (with_reducible exact LeO.none _)
      | (with_reducible refine LeO.ite ?_ ?_)
      | (with_reducible refine LeO.bind ?_ (fun _ => ?_))
theorem spec_l09Signature.mono : ∀ a0 a1 a2 k, LeO (spec_l09Signature.f k a0 a1 a2) (spec_l09Signature.f (k + 1) a0 a1 a2) := by
  intro a0 a1 a2 k
  have ih0 := spec_l09Signature.mono_l k
  unfold spec_l09Signature.f
  repeat' first
      | (with_reducible exact ih0 _ _ _ _ _)
      | (with_reducible exact spec_l09Step.mono _ _ _ _ _)
      | (with_reducible exact LeO.refl _)
      | (with_reducible exact LeO.none _)
      | (with_reducible refine LeO.ite ?_ ?_)
      | (with_reducible refine LeO.bind ?_ (fun _ => ?_))
set_option maxHeartbeats 8000000 in
set_option maxRecDepth 100000 in
theorem spec_l09Signature.calls (k : Nat) (a0 : Int) (a1 : Int) (A2 : Option Addr) (c2 : Nat) (l2 : List Int) (r1 : Int) (r2 : Int) (r3 : List (S89)) (w : World) (hr2 : Kd.C (Kd.int .i64) w A2 l2.length l2) (hc2 : l2.length ≤ c2) (h : spec_l09Signature.f k a0 a1 l2 = some (r1, r2, r3)) :
    Calls Try.prog 70 #[.int .i64 a0, .int .i64 a1, .slice A2 l2.length c2] w fun e w' => ∃ v2_ : Value, e = .returned (.agg #[.int .i64 r1, .int .i64 r2, v2_]) ∧ Kd.R k89 89 w' w.heap.size (fun _ => True) v2_ r3 ∧ Below w.heap.size w w' := by
  have hu32 := Try.underlying32
  have HR2 := Aside0.mk hr2
  have HC2 := Aside0.mk hc2
  clear hr2 hc2
  have HB := Aside0.mk (Below.refl w.heap.size w)
  have H : ((spec_l01One.f a0 a1 (⟨#[]⟩ : ByteArray)).bind fun bt248 => (spec_l09Signature.l0 k l2 0 bt248.1 bt248.2.1 bt248.2.2)) = some (r1, r2, r3) := h
  clear h
  replace H := Option.bind_eq_some_iff.mp H
  obtain ⟨⟨t248, t249, t250⟩, A40, H⟩ := H
  replace H : (spec_l09Signature.l0 k l2 0 t248 t249 t250) = some (r1, r2, r3) := H
  have A4 := Aside0.mk A40
  clear A40
  have H' := Aside0.mk H
  clear H
  go_enter Try.func70, Try.ntmps70
  go_wp2_with (first | ((with_reducible refine gate_dst (N := 6) rfl ?_); refine zX 6 (#[.int .i64 0, .int .i64 0, .slice none 0 0]) 32 ?_; intro gb247 hg w5 hbox hb; have BK247 := Aside0.mk (hbox); have GW247 := Aside0.mk (zG : w.heap.size ≤ gb247); have GE247 := Aside0.mk (zG : w.heap.size ≤ gb247); replace HB := Aside0.mk (below_step zB hb); clear hb hbox hg) | ((with_reducible refine gate_callee (f := 81) rfl ?_); refine goesL_ (some 11) rfl rfl Try.func81 (by kernel_rfl) rfl #[.int .i64 a0, .int .i64 a1, .string (⟨#[]⟩ : ByteArray)] rfl zM ?_; (with_reducible refine (spec_l01One.calls a0 a1 (⟨#[]⟩ : ByteArray) t248 t249 t250 _ A4.out).mono ?_); rintro e w6 ⟨v251, rfl, ho0, hb⟩; refine ⟨_, rfl, ?_⟩; have HO252 := Aside0.mk (Kd.R_lower ho0 (below_size zB)); replace BK247 := Aside0.mk (zW BK247 hb); replace HB := Aside0.mk (below_step zB hb); (try clear hb); (try clear hb2); (try clear hk); (try clear hi); (try clear ho0)) | ((with_reducible refine gate_dst (N := 7) rfl ?_); refine zX 7 (#[.int .i64 0, .int .i64 0, .slice none 0 0]) 32 ?_; intro gb253 hg w7 hbox hb; have BK253 := Aside0.mk (hbox); have GW253 := Aside0.mk (zG : w.heap.size ≤ gb253); have GE253 := Aside0.mk (zG : w.heap.size ≤ gb253); have NB247_253 := Aside0.mk (zU BK247 hg); have NB253_247 := Aside0.mk (zV BK247 hg); replace HO252 := Aside0.mk (Kd.R_below HO252.out hb); replace BK247 := Aside0.mk (zW BK247 hb); replace HB := Aside0.mk (below_step zB hb); clear hb hbox hg; have hnb8 := NB253_247.out; have hnc8 := NB247_253.out; obtain ⟨hcz9_0, hcz9_1, hcz9_2, hfz9_0, hfz9_1, hfz9_2⟩ := zC3 BK253; obtain ⟨Ao10, co10, eo10⟩ := Kd.R_slice HO252.out; subst eo10))
  go_loopg [8] k (fun kq v8 w' => ∃ (x8_1 : Int) (x254000_1 : Int) (x254001_1 : Int) (x254002_1 : List (S89)) (u254002 : Value), v8 = .int .i64 x8_1 ∧ Aside0 (spec_l09Signature.l0 kq l2 x8_1 x254000_1 x254001_1 x254002_1 = some (r1, r2, r3)) ∧ Aside0 (kq ≤ k) ∧ Aside0 (Kd.R k89 89 w' w.heap.size (fun _ => True) u254002 x254002_1) ∧ Aside0 (w'.heap[gb247]? = some (.cells #[.int .i64 0, .int .i64 0, (.slice none 0 0)] 32 (0, 0))) ∧ Aside0 (w'.heap[gb253]? = some (.cells #[.int .i64 x254000_1, .int .i64 x254001_1, u254002] 32 (0, 0))) ∧ Aside0 (Below w.heap.size w w'))
  case atStart => exact ⟨(0), (t248), (t249), (t250), (.slice Ao10 t250.length co10), (by first | rfl | (simp; done) | (simp [*]; done)), H', ⟨Nat.le_refl _⟩, ⟨by (with_reducible repeat (first | apply Kd.R_alloc | apply Kd.R_drewN | apply Kd.R_drew)); exact Kd.R_mono (Kd.R_far (p := ⟨gb253, 2, none⟩) (Kd.R_far (p := ⟨gb253, 1, none⟩) (Kd.R_far (p := ⟨gb253, 0, none⟩) (Kd.R_types HO252.out BK253.out (by decide)) (fun _ hk => hk.2) (.int .i64 t248)) (fun _ hk => hk.2) (.int .i64 t249)) (fun _ hk => hk.2) (.slice Ao10 t250.length co10)) (fun _ hk => trivial)⟩, ⟨by (with_reducible repeat (first | refine blk_drewN ?_ _ | refine blk_drew ?_ | refine blk_alloc ?_ _)); refine blk_far ?_ NB247_253.out _; (with_reducible repeat (first | refine blk_drewN ?_ _ | refine blk_drew ?_ | refine blk_alloc ?_ _)); refine blk_far ?_ NB247_253.out _; (with_reducible repeat (first | refine blk_drewN ?_ _ | refine blk_drew ?_ | refine blk_alloc ?_ _)); refine blk_far ?_ NB247_253.out _; (with_reducible repeat (first | refine blk_drewN ?_ _ | refine blk_drew ?_ | refine blk_alloc ?_ _)); exact BK247.out⟩, ⟨by (with_reducible repeat (first | refine blk_drewN ?_ _ | refine blk_drew ?_ | refine blk_alloc ?_ _)); refine blk_put (cs := #[.int .i64 t248, .int .i64 t249, .slice none 0 0]) ?_ 2 _ rfl; (with_reducible repeat (first | refine blk_drewN ?_ _ | refine blk_drew ?_ | refine blk_alloc ?_ _)); refine blk_put (cs := #[.int .i64 t248, .int .i64 0, .slice none 0 0]) ?_ 1 _ rfl; (with_reducible repeat (first | refine blk_drewN ?_ _ | refine blk_drew ?_ | refine blk_alloc ?_ _)); refine blk_put (cs := #[.int .i64 0, .int .i64 0, .slice none 0 0]) ?_ 0 _ rfl; (with_reducible repeat (first | refine blk_drewN ?_ _ | refine blk_drew ?_ | refine blk_alloc ?_ _)); exact BK253.out⟩, ⟨zB⟩⟩
  case round =>
    clear H'
    obtain ⟨x8_1, x254000_1, x254001_1, x254002_1, u254002, rfl, HA, HK1, HO_254002, BK247, BK253, HB⟩ := hrel
    cases gk with
    | zero => exact absurd HA.out (by simp [spec_l09Signature.l0])
    | succ k1 =>
      have H := HA.out
      clear HA
      simp only [spec_l09Signature.l0] at H
      by_cases c11 : x8_1 < (l2.length : Int)
      · rw [if_pos c11] at H
        have c11b0 : decide (x8_1 < (l2.length : Int)) = true := decide_eq_true c11
        clear c11
        by_cases c12 : 0 ≤ x8_1
        · rw [if_pos c12] at H
          have c12b0 : decide (0 ≤ x8_1) = true := decide_eq_true c12
          clear c12
          replace H := Option.bind_eq_some_iff.mp H
          obtain ⟨⟨t255, t256, t257⟩, A130, H⟩ := H
          replace H : (spec_l09Signature.l0 k1 l2 (wrap64 (x8_1 + 1)) t255 t256 t257) = some (r1, r2, r3) := H
          have A13 := Aside0.mk A130
          clear A130
          have H' := Aside0.mk H
          clear H
          try go_wp2
          replace HO_254002 := Aside0.mk (Kd.R_drew HO_254002.out)
          replace BK247 := Aside0.mk (blk_drew BK247.out)
          replace BK253 := Aside0.mk (blk_drew BK253.out)
          replace HB := Aside0.mk (below_drew1 HB.out)
          have p254 : 0 ≤ (x8_1 : Int) := zD
          have q254 : x8_1 < (l2.length : Int) := zD
          obtain ⟨ad254, e254, hx254_0⟩ := Kd.at_int HR2.out x8_1 p254 q254
          have hw254_0 := hx254_0
          cases e254
          replace hx254_0 := zH HB hx254_0
          replace p254 := eq_true p254
          replace q254 := eq_true q254
          obtain ⟨Ao15, co15, eo15⟩ := Kd.R_slice HO_254002.out
          (first | subst eo15 | (injection eo15 with f1_ f2_ f3_; have f4_ := f1_.symm; have f5_ := f3_.symm; clear f1_ f2_ f3_; subst f4_; subst f5_))
          refine start_ (n := 7) (S := fun w' => w'.cell? ⟨gb253, 0, none⟩ = some (.int .i64 x254000_1) ∧ w'.cell? ⟨gb253, 1, none⟩ = some (.int .i64 x254001_1) ∧ w'.cell? ⟨gb253, 2, none⟩ = some (.slice Ao15 x254002_1.length co15) ∧ w'.cell? (ad254.add (x8_1).toNat) = some (.int .i64 (rd l2 x8_1))) (ds := [6]) #[false, false, false, false, false, false, false] (by kernel_rfl) rfl rfl ⟨(blk_cell BK253.out 0).trans rfl, (blk_cell BK253.out 1).trans rfl, (blk_cell BK253.out 2).trans rfl, (zH HB hw254_0 :)⟩ (fun hHeld => ?_)
          generalize wr.drew = w14 at HO_254002 BK247 BK253 HB hx254_0 hHeld ⊢
          refine zP 1 (N := some 19) (h := ?_)
          refine zP 2 (N := some 20) (h := ?_)
          refine zP 3 (N := some 21) (h := ?_)
          refine zT 0 hHeld (N := some 18) (h := ?_)
          refine zT 4 hHeld (N := some 22) (h := ?_)
          refine one_ (i := 5) (N := some 23) #[true, true, true, true, true, true, false] rfl rfl (by kernel_rfl) (by decide) (fun K hK => ?_)
          refine goes_ Try.func84 (by kernel_rfl) rfl #[.agg #[.int .i64 x254000_1, .int .i64 x254001_1, .slice Ao15 x254002_1.length co15], .int .i64 (rd l2 x8_1)] (by rfl) rfl rfl zM ?_
          with_reducible refine (spec_l09Step.calls k1 x254000_1 x254001_1 _ _ x254002_1 (rd l2 x8_1) t255 t256 t257 _ ?side1 ?side2 A13.out).mono ?_
          (case side1 => repeat (first | exact (Kd.R_reads' HO_254002.out).2.2 | (with_reducible refine Kd.C_alloc ?_ _) | (with_reducible refine Kd.C_drewN ?_ _) | (with_reducible refine Kd.C_drew ?_)))
          (case side2 => exact (Kd.R_reads' HO_254002.out).2.1)
          rintro e w16 ⟨v258, rfl, ho0, hb⟩
          refine ⟨_, rfl, ?_⟩
          have HO259 := Aside0.mk (Kd.R_lower (Kd.R_new' ho0 (Kd.R_lt HO_254002.out)) (below_size zB))
          replace HO_254002 := Aside0.mk (Kd.R_elder' zR (Kd.R_base ho0) hb)
          replace BK247 := Aside0.mk (zW BK247 hb)
          replace BK253 := Aside0.mk (zW BK253 hb)
          replace HB := Aside0.mk (below_step zB hb)
          (try clear hb)
          (try clear hb2)
          (try clear hk)
          (try clear hi)
          (try clear ho0)
          obtain ⟨Ao19, co19, eo19⟩ := Kd.R_slice HO259.out
          (first | subst eo19 | (injection eo19 with f1_ f2_ f3_; have f4_ := f1_.symm; have f5_ := f3_.symm; clear f1_ f2_ f3_; subst f4_; subst f5_))
          refine hK.out _ _ ⟨(blk_cell BK253.out 0).trans rfl, (blk_cell BK253.out 1).trans rfl, (blk_cell BK253.out 2).trans rfl, (zH HB hw254_0 :)⟩ (fun hHeld => ?_)
          clear hK K
          refine norm_ (a' := ?_) ?_ ?_
          rotate_left
          · show Act.put _ (some 23) _ = _
            simp only [Act.put, List.setIfInBounds_toArray, List.set_cons_zero, List.set_cons_succ, i64_w, i32_w]
            rfl
          refine last_ (i := 6) (N := none) #[true, true, true, true, true, true, true] rfl rfl (by kernel_rfl) (by decide) (fun K hK => ?_)
          have hs17 : w16.cell? ⟨gb253, 0, none⟩ = some (.int .i64 x254000_1) := (blk_cell BK253.out 0).trans rfl
          have hfs17 := blk_frozen BK253.out 0
          have hns17_0 := NB247_253.out
          have hms17_0 := NB253_247.out
          have hs18 : w16.cell? ⟨gb253, 1, none⟩ = some (.int .i64 x254001_1) := (blk_cell BK253.out 1).trans rfl
          have hfs18 := blk_frozen BK253.out 1
          have hns18_0 := NB247_253.out
          have hms18_0 := NB253_247.out
          have hs20 : w16.cell? ⟨gb253, 2, none⟩ = some (.slice Ao15 x254002_1.length co15) := (blk_cell BK253.out 2).trans rfl
          have hfs20 := blk_frozen BK253.out 2
          have hns20_0 := NB247_253.out
          have hms20_0 := NB253_247.out
          refine skip_ (w1 := ?_) (by rfl) rfl ?_ ?_
          rotate_left
          · go_simp
            rfl
          refine hK.out _ _ ?_
          clear hK K
          refine done_ (by kernel_rfl) ?_
          try go_wp2
          go_roundg k1
          case measure => have := HK1.out; omega
          case rel => exact ⟨(wrap64 (x8_1 + 1)), (t255), (t256), (t257), (.slice Ao19 t257.length co19), (by first | rfl | (simp; done) | (simp [*]; done)), H', ⟨by have := HK1.out; omega⟩, ⟨by (with_reducible repeat (first | apply Kd.R_alloc | apply Kd.R_drewN | apply Kd.R_drew)); exact Kd.R_mono (Kd.R_far (p := ⟨gb253, 2, none⟩) (Kd.R_far (p := ⟨gb253, 1, none⟩) (Kd.R_far (p := ⟨gb253, 0, none⟩) (Kd.R_types HO259.out BK253.out (by decide)) (fun _ hk => hk.2) (.int .i64 t255)) (fun _ hk => hk.2) (.int .i64 t256)) (fun _ hk => hk.2) (.slice Ao19 t257.length co19)) (fun _ hk => trivial)⟩, ⟨by (with_reducible repeat (first | refine blk_drewN ?_ _ | refine blk_drew ?_ | refine blk_alloc ?_ _)); refine blk_far ?_ NB247_253.out _; (with_reducible repeat (first | refine blk_drewN ?_ _ | refine blk_drew ?_ | refine blk_alloc ?_ _)); refine blk_far ?_ NB247_253.out _; (with_reducible repeat (first | refine blk_drewN ?_ _ | refine blk_drew ?_ | refine blk_alloc ?_ _)); refine blk_far ?_ NB247_253.out _; (with_reducible repeat (first | refine blk_drewN ?_ _ | refine blk_drew ?_ | refine blk_alloc ?_ _)); exact BK247.out⟩, ⟨by (with_reducible repeat (first | refine blk_drewN ?_ _ | refine blk_drew ?_ | refine blk_alloc ?_ _)); refine blk_put (cs := #[.int .i64 t255, .int .i64 t256, .slice Ao15 x254002_1.length co15]) ?_ 2 _ rfl; (with_reducible repeat (first | refine blk_drewN ?_ _ | refine blk_drew ?_ | refine blk_alloc ?_ _)); refine blk_put (cs := #[.int .i64 t255, .int .i64 x254001_1, .slice Ao15 x254002_1.length co15]) ?_ 1 _ rfl; (with_reducible repeat (first | refine blk_drewN ?_ _ | refine blk_drew ?_ | refine blk_alloc ?_ _)); refine blk_put (cs := #[.int .i64 x254000_1, .int .i64 x254001_1, .slice Ao15 x254002_1.length co15]) ?_ 0 _ rfl; (with_reducible repeat (first | refine blk_drewN ?_ _ | refine blk_drew ?_ | refine blk_alloc ?_ _)); exact BK253.out⟩, ⟨zB⟩⟩
        · rw [if_neg c12] at H
          exact absurd H (by simp)
      · rw [if_neg c11] at H
        have c11b0 : decide (x8_1 < (l2.length : Int)) = false := decide_eq_false c11
        clear c11
        simp only [Option.some.injEq, Prod.mk.injEq] at H
        obtain ⟨rfl, rfl, rfl⟩ := H
        have hnb21 := NB253_247.out
        have hnc21 := NB247_253.out
        obtain ⟨hcz22_0, hcz22_1, hcz22_2, hfz22_0, hfz22_1, hfz22_2⟩ := zC3 BK253
        obtain ⟨hcz23_0, hcz23_1, hcz23_2, hfz23_0, hfz23_1, hfz23_2⟩ := zC3 BK247
        obtain ⟨Ao24, co24, eo24⟩ := Kd.R_slice HO_254002.out
        subst eo24
        go_wp2
        refine bodyPost_ret (results_cell_row rfl _ _ gb247 32 #[.int .i64 x254000_1, .int .i64 x254001_1, .slice Ao24 x254002_1.length co24] (0, 0) _ rfl (by (with_reducible repeat (first | refine blk_drewN ?_ _ | refine blk_drew ?_ | refine blk_alloc ?_ _)); refine blk_put (cs := #[.int .i64 x254000_1, .int .i64 x254001_1, .slice none 0 0]) ?_ 2 _ rfl; (with_reducible repeat (first | refine blk_drewN ?_ _ | refine blk_drew ?_ | refine blk_alloc ?_ _)); refine blk_put (cs := #[.int .i64 x254000_1, .int .i64 0, .slice none 0 0]) ?_ 1 _ rfl; (with_reducible repeat (first | refine blk_drewN ?_ _ | refine blk_drew ?_ | refine blk_alloc ?_ _)); refine blk_put (cs := #[.int .i64 0, .int .i64 0, .slice none 0 0]) ?_ 0 _ rfl; exact zK) Try.underlying32 rfl (by kernel_rfl)) rfl ?_
        exact ⟨_, by first | rfl | (simp [errW_none, errW_some] <;> rfl) | (simp [*, errW_none, errW_some] <;> rfl), by (with_reducible repeat (first | apply Kd.R_alloc | apply Kd.R_drewN | apply Kd.R_drew)); exact Kd.R_mono (Kd.R_far (p := ⟨gb247, 2, none⟩) (Kd.R_far (p := ⟨gb247, 1, none⟩) (Kd.R_far (p := ⟨gb247, 0, none⟩) (Kd.R_types HO_254002.out BK247.out (by decide)) (fun _ hk => hk.2) (.int .i64 x254000_1)) (fun _ hk => hk.2) (.int .i64 x254001_1)) (fun _ hk => hk.2) (.slice Ao24 x254002_1.length co24)) (fun _ hk => trivial), zB⟩

/-! ### spec_l01Part: function 78 -/
def spec_l01Part.l0 : Nat → Int → Int → Int → Int → List (S89) → Int → Int → List (S89) → Option (Int × Int × (List (S89)))
  | 0, _, _, _, _, _, _, _, _ => none
  | k + 1, x1, x6, x261000, x261001, x261002, x268000, x268001, x268002 => if x6 < (x261002.length : Int) then (if 0 ≤ x6 then (if (((rd_T89 x261002 x6).f0).size : Int) = x1 then (if x268002.length < 4398046511104 then (spec_l01Part.l0 k x1 (wrap64 (x6 + 1)) x261000 x261001 x261002 x268000 x268001 (x268002 ++ [(⟨(rd_T89 x261002 x6).f0, (⟨(rd_T89 x261002 x6).f1.f0, (rd_T89 x261002 x6).f1.f1⟩ : S27)⟩ : S89)])) else (none)) else (spec_l01Part.l0 k x1 (wrap64 (x6 + 1)) x261000 x261001 x261002 x268000 x268001 x268002)) else (none)) else (some (x268000, x268001, x268002))
def spec_l01Part.f (k : Nat) (a0_0 : Int) (a0_1 : Int) (l0_2 : List (S89)) (a1 : Int) : Option (Int × Int × (List (S89))) := (spec_l01Empty.f a0_0 a0_1 l0_2).bind fun bt262 => (spec_l01Part.l0 k a1 0 a0_0 a0_1 l0_2 bt262.1 bt262.2.1 bt262.2.2)
theorem spec_l01Part.mono_l : ∀ k, (∀ y0 y1 y2 y3 y4 y5 y6 y7, LeO (spec_l01Part.l0 k y0 y1 y2 y3 y4 y5 y6 y7) (spec_l01Part.l0 (k + 1) y0 y1 y2 y3 y4 y5 y6 y7))
  | 0 => fun _ _ _ _ _ _ _ _ r h => by simp [spec_l01Part.l0] at h
  | k + 1 => by
    have ih0 := spec_l01Part.mono_l k
    · intro y0 y1 y2 y3 y4 y5 y6 y7
      unfold spec_l01Part.l0
      repeat' first
      | (with_reducible exact ih0 _ _ _ _ _ _ _ _)
      | (with_reducible exact LeO.refl _)
      | (with_reducible exact LeO.none _)
      | (with_reducible refine LeO.ite ?_ ?_)
      | (with_reducible refine LeO.bind ?_ (fun _ => ?_))
theorem spec_l01Part.mono : ∀ a0 a1 a2 a3 k, LeO (spec_l01Part.f k a0 a1 a2 a3) (spec_l01Part.f (k + 1) a0 a1 a2 a3) := by
  intro a0 a1 a2 a3 k
  have ih0 := spec_l01Part.mono_l k
  unfold spec_l01Part.f
  repeat' first
      | (with_reducible exact ih0 _ _ _ _ _ _ _ _)
      | (with_reducible exact LeO.refl _)
      | (with_reducible exact LeO.none _)
      | (with_reducible refine LeO.ite ?_ ?_)
      | (with_reducible refine LeO.bind ?_ (fun _ => ?_))
def spec_l01Part.T6 : Bool × List (List Nat × List Nat) := (true, [([], []), ([0], [0]), ([], []), ([2], [2]), ([], []), ([3, 4], [3, 4]), ([5], [5]), ([6], [6]), ([1, 7], [1, 7]), ([0, 1, 2, 3, 4, 5, 6, 7, 8], []), ([9, 8, 8, 0, 1, 2, 3, 4, 5, 6, 7, 8], [8, 9])])
def spec_l01Part.B6 : List Nat := [0, 1, 0, 4, 0, 28, 60, 124, 255, 511, 1023]
theorem spec_l01Part.tab6 : rtab .any (opsOf Try.f78 6) = spec_l01Part.T6 := by kernel_rfl
theorem spec_l01Part.bits6 : waitsOk spec_l01Part.T6.2 spec_l01Part.B6 = true := by kernel_rfl
set_option maxHeartbeats 8000000 in
set_option maxRecDepth 100000 in
theorem spec_l01Part.calls (k : Nat) (a0_0 : Int) (a0_1 : Int) (A0_2 : Option Addr) (c0_2 : Nat) (l0_2 : List (S89)) (a1 : Int) (r1 : Int) (r2 : Int) (r3 : List (S89)) (w : World) (hr0_2 : Kd.C k89 w A0_2 l0_2.length l0_2) (hc0_2 : l0_2.length ≤ c0_2) (h : spec_l01Part.f k a0_0 a0_1 l0_2 a1 = some (r1, r2, r3)) :
    Calls Try.prog 78 #[.agg #[.int .i64 a0_0, .int .i64 a0_1, .slice A0_2 l0_2.length c0_2], .int .i64 a1] w fun e w' => ∃ v2_ : Value, e = .returned (.agg #[.int .i64 r1, .int .i64 r2, v2_]) ∧ Kd.R k89 89 w' w.heap.size (fun _ => True) v2_ r3 ∧ Below w.heap.size w w' := by
  have hu32 := Try.underlying32
  have hu89 := Try.underlying89
  have HR0_2 := Aside0.mk hr0_2
  have HC0_2 := Aside0.mk hc0_2
  clear hr0_2 hc0_2
  have HB := Aside0.mk (Below.refl w.heap.size w)
  have H : ((spec_l01Empty.f a0_0 a0_1 l0_2).bind fun bt262 => (spec_l01Part.l0 k a1 0 a0_0 a0_1 l0_2 bt262.1 bt262.2.1 bt262.2.2)) = some (r1, r2, r3) := h
  clear h
  replace H := Option.bind_eq_some_iff.mp H
  obtain ⟨⟨t262, t263, t264⟩, A30, H⟩ := H
  replace H : (spec_l01Part.l0 k a1 0 a0_0 a0_1 l0_2 t262 t263 t264) = some (r1, r2, r3) := H
  have A3 := Aside0.mk A30
  clear A30
  have H' := Aside0.mk H
  clear H
  go_enter Try.func78, Try.ntmps78
  go_wp2_with (first | ((with_reducible refine gate_dst (N := 2) rfl ?_); refine zX 2 (#[.int .i64 a0_0, .int .i64 a0_1, .slice A0_2 l0_2.length c0_2]) 32 ?_; intro gb260 hg w4 hbox hb; have BK260 := Aside0.mk (hbox); have GW260 := Aside0.mk (zG : w.heap.size ≤ gb260); have GE260 := Aside0.mk (zG : w.heap.size ≤ gb260); replace HB := Aside0.mk (below_step zB hb); clear hb hbox hg) | ((with_reducible refine gate_dst (N := 4) rfl ?_); refine zX 4 (#[.int .i64 0, .int .i64 0, .slice none 0 0]) 32 ?_; intro gb261 hg w5 hbox hb; have BK261 := Aside0.mk (hbox); have GW261 := Aside0.mk (zG : w.heap.size ≤ gb261); have GE261 := Aside0.mk (zG : w.heap.size ≤ gb261); have NB260_261 := Aside0.mk (zU BK260 hg); have NB261_260 := Aside0.mk (zV BK260 hg); replace BK260 := Aside0.mk (zW BK260 hb); replace HB := Aside0.mk (below_step zB hb); clear hb hbox hg; have hnb6 := NB260_261.out; have hnc6 := NB261_260.out; obtain ⟨hcz7_0, hcz7_1, hcz7_2, hfz7_0, hfz7_1, hfz7_2⟩ := zC3 BK260) | ((with_reducible refine gate_callee (f := 77) rfl ?_); refine goesL_ (some 8) rfl rfl Try.func77 (by kernel_rfl) rfl #[.agg #[.int .i64 a0_0, .int .i64 a0_1, .slice A0_2 l0_2.length c0_2]] rfl zM ?_; (with_reducible refine (spec_l01Empty.calls a0_0 a0_1 _ _ l0_2 t262 t263 t264 _ ?side1 ?side2 A3.out).mono ?_); (case side1 => repeat (first | exact (Kd.C_below HR0_2.out HB.out) | (with_reducible refine Kd.C_alloc ?_ _) | (with_reducible refine Kd.C_drewN ?_ _) | (with_reducible refine Kd.C_drew ?_))); (case side2 => exact HC0_2.out); rintro e w8 ⟨v265, rfl, ho0, hb⟩; refine ⟨_, rfl, ?_⟩; have HO266 := Aside0.mk (Kd.R_lower ho0 (below_size zB)); replace BK260 := Aside0.mk (zW BK260 hb); replace BK261 := Aside0.mk (zW BK261 hb); replace HB := Aside0.mk (below_step zB hb); (try clear hb); (try clear hb2); (try clear hk); (try clear hi); (try clear ho0)) | ((with_reducible refine gate_dst (N := 5) rfl ?_); refine zX 5 (#[.int .i64 0, .int .i64 0, .slice none 0 0]) 32 ?_; intro gb267 hg w9 hbox hb; have BK267 := Aside0.mk (hbox); have GW267 := Aside0.mk (zG : w.heap.size ≤ gb267); have GE267 := Aside0.mk (zG : w.heap.size ≤ gb267); have NB260_267 := Aside0.mk (zU BK260 hg); have NB267_260 := Aside0.mk (zV BK260 hg); have NB261_267 := Aside0.mk (zU BK261 hg); have NB267_261 := Aside0.mk (zV BK261 hg); replace HO266 := Aside0.mk (Kd.R_below HO266.out hb); replace BK260 := Aside0.mk (zW BK260 hb); replace BK261 := Aside0.mk (zW BK261 hb); replace HB := Aside0.mk (below_step zB hb); clear hb hbox hg; have hnb10 := NB267_260.out; have hnc10 := NB260_267.out; have hnb11 := NB267_261.out; have hnc11 := NB261_267.out; obtain ⟨hcz12_0, hcz12_1, hcz12_2, hfz12_0, hfz12_1, hfz12_2⟩ := zC3 BK267; obtain ⟨Ao13, co13, eo13⟩ := Kd.R_slice HO266.out; subst eo13))
  go_loopg [6] k (fun kq v6 w' => ∃ (x6_1 : Int) (x268002_1 : List (S89)) (u268002 : Value), v6 = .int .i64 x6_1 ∧ Aside0 (spec_l01Part.l0 kq a1 x6_1 a0_0 a0_1 l0_2 t262 t263 x268002_1 = some (r1, r2, r3)) ∧ Aside0 (kq ≤ k) ∧ Aside0 (Kd.R k89 89 w' w.heap.size (fun _ => True) u268002 x268002_1) ∧ Aside0 (w'.heap[gb260]? = some (.cells #[.int .i64 a0_0, .int .i64 a0_1, (.slice A0_2 l0_2.length c0_2)] 32 (0, 0))) ∧ Aside0 (w'.heap[gb261]? = some (.cells #[.int .i64 0, .int .i64 0, (.slice none 0 0)] 32 (0, 0))) ∧ Aside0 (w'.heap[gb267]? = some (.cells #[.int .i64 t262, .int .i64 t263, u268002] 32 (0, 0))) ∧ Aside0 (Below w.heap.size w w'))
  case atStart => exact ⟨(0), (t264), (.slice Ao13 t264.length co13), (by first | rfl | (simp; done) | (simp [*]; done)), H', ⟨Nat.le_refl _⟩, ⟨by (with_reducible repeat (first | apply Kd.R_alloc | apply Kd.R_drewN | apply Kd.R_drew)); exact Kd.R_mono (Kd.R_far (p := ⟨gb267, 2, none⟩) (Kd.R_far (p := ⟨gb267, 1, none⟩) (Kd.R_far (p := ⟨gb267, 0, none⟩) (Kd.R_types HO266.out BK267.out (by decide)) (fun _ hk => hk.2) (.int .i64 t262)) (fun _ hk => hk.2) (.int .i64 t263)) (fun _ hk => hk.2) (.slice Ao13 t264.length co13)) (fun _ hk => trivial)⟩, ⟨by (with_reducible repeat (first | refine blk_drewN ?_ _ | refine blk_drew ?_ | refine blk_alloc ?_ _)); refine blk_far ?_ NB260_267.out _; (with_reducible repeat (first | refine blk_drewN ?_ _ | refine blk_drew ?_ | refine blk_alloc ?_ _)); refine blk_far ?_ NB260_267.out _; (with_reducible repeat (first | refine blk_drewN ?_ _ | refine blk_drew ?_ | refine blk_alloc ?_ _)); refine blk_far ?_ NB260_267.out _; (with_reducible repeat (first | refine blk_drewN ?_ _ | refine blk_drew ?_ | refine blk_alloc ?_ _)); exact BK260.out⟩, ⟨by (with_reducible repeat (first | refine blk_drewN ?_ _ | refine blk_drew ?_ | refine blk_alloc ?_ _)); refine blk_far ?_ NB261_267.out _; (with_reducible repeat (first | refine blk_drewN ?_ _ | refine blk_drew ?_ | refine blk_alloc ?_ _)); refine blk_far ?_ NB261_267.out _; (with_reducible repeat (first | refine blk_drewN ?_ _ | refine blk_drew ?_ | refine blk_alloc ?_ _)); refine blk_far ?_ NB261_267.out _; (with_reducible repeat (first | refine blk_drewN ?_ _ | refine blk_drew ?_ | refine blk_alloc ?_ _)); exact BK261.out⟩, ⟨by (with_reducible repeat (first | refine blk_drewN ?_ _ | refine blk_drew ?_ | refine blk_alloc ?_ _)); refine blk_put (cs := #[.int .i64 t262, .int .i64 t263, .slice none 0 0]) ?_ 2 _ rfl; (with_reducible repeat (first | refine blk_drewN ?_ _ | refine blk_drew ?_ | refine blk_alloc ?_ _)); refine blk_put (cs := #[.int .i64 t262, .int .i64 0, .slice none 0 0]) ?_ 1 _ rfl; (with_reducible repeat (first | refine blk_drewN ?_ _ | refine blk_drew ?_ | refine blk_alloc ?_ _)); refine blk_put (cs := #[.int .i64 0, .int .i64 0, .slice none 0 0]) ?_ 0 _ rfl; (with_reducible repeat (first | refine blk_drewN ?_ _ | refine blk_drew ?_ | refine blk_alloc ?_ _)); exact BK267.out⟩, ⟨zB⟩⟩
  case round =>
    clear H'
    obtain ⟨x6_1, x268002_1, u268002, rfl, HA, HK1, HO_268002, BK260, BK261, BK267, HB⟩ := hrel
    cases gk with
    | zero => exact absurd HA.out (by simp [spec_l01Part.l0])
    | succ k1 =>
      have H := HA.out
      clear HA
      simp only [spec_l01Part.l0] at H
      by_cases c14 : x6_1 < (l0_2.length : Int)
      · rw [if_pos c14] at H
        have c14b0 : decide (x6_1 < (l0_2.length : Int)) = true := decide_eq_true c14
        clear c14
        by_cases c15 : 0 ≤ x6_1
        · rw [if_pos c15] at H
          have c15b0 : decide (0 ≤ x6_1) = true := decide_eq_true c15
          clear c15
          by_cases c16 : (((rd_T89 l0_2 x6_1).f0).size : Int) = a1
          · rw [if_pos c16] at H
            have c16b0 : ((((rd_T89 l0_2 x6_1).f0).size : Int) == a1) = true := beq_iff_eq.mpr c16
            have c16b1 : ((((rd_T89 l0_2 x6_1).f0).size : Int) != a1) = false := bne_eq_false_iff_eq.mpr c16
            clear c16
            by_cases c17 : x268002_1.length < 4398046511104
            ·rw [if_pos c17] at H
             have LMc17 := Aside0.mk c17
             clear c17
             obtain ⟨y270, hy270⟩ : ∃ y_ : List (S89), y_ = (x268002_1 ++ [(⟨(rd_T89 l0_2 x6_1).f0, (⟨(rd_T89 l0_2 x6_1).f1.f0, (rd_T89 l0_2 x6_1).f1.f1⟩ : S27)⟩ : S89)]) := ⟨_, rfl⟩
             replace H : (spec_l01Part.l0 k1 a1 (wrap64 (x6_1 + 1)) a0_0 a0_1 l0_2 t262 t263 y270) = some (r1, r2, r3) := by first | (rw [hy270]; with_reducible exact H) | (have H2_ := (Option.bind_some _ _).symm.trans H; rw [hy270]; with_reducible exact H2_) | (have H2_ := (Option.bind_some _ _).symm.trans H; with_reducible exact H2_) | with_reducible exact H | (rw [hy270]; exact H) | exact H
             have Ny270 := Aside0.mk hy270
             clear hy270
             have H' := Aside0.mk H
             clear H
             have hnb18 := NB260_261.out
             have hnc18 := NB261_260.out
             have hnb19 := NB260_267.out
             have hnc19 := NB267_260.out
             obtain ⟨hcz20_0, hcz20_1, hcz20_2, hfz20_0, hfz20_1, hfz20_2⟩ := zC3 BK260
             have p268 : 0 ≤ (x6_1 : Int) := zD
             have q268 : x6_1 < (l0_2.length : Int) := zD
             obtain ⟨ad268, e268, hx268_0, hx268_1, hx268_2⟩ := at_T89 HR0_2.out x6_1 p268 q268
             cases e268
             replace hx268_0 := zH HB hx268_0
             replace hx268_1 := zH HB hx268_1
             replace hx268_2 := zH HB hx268_2
             replace p268 := eq_true p268
             replace q268 := eq_true q268
             try go_wp2
             replace HO_268002 := Aside0.mk (Kd.R_drew HO_268002.out)
             replace BK260 := Aside0.mk (blk_drew BK260.out)
             replace BK261 := Aside0.mk (blk_drew BK261.out)
             replace BK267 := Aside0.mk (blk_drew BK267.out)
             replace HB := Aside0.mk (below_drew1 HB.out)
             have p269 : 0 ≤ (x6_1 : Int) := zD
             have q269 : x6_1 < (l0_2.length : Int) := zD
             obtain ⟨ad269, e269, hx269_0, hx269_1, hx269_2⟩ := at_T89 HR0_2.out x6_1 p269 q269
             have hw269_2 := hx269_2
             have hw269_1 := hx269_1
             have hw269_0 := hx269_0
             obtain rfl : ad268 = ad269 := (by injection e269)
             replace hx269_0 := zH HB hx269_0
             replace hx269_1 := zH HB hx269_1
             replace hx269_2 := zH HB hx269_2
             replace p269 := eq_true p269
             replace q269 := eq_true q269
             refine start_ (n := 11) (S := fun w' => w'.cell? ⟨gb267, 0, none⟩ = some (.int .i64 t262) ∧ w'.cell? ⟨gb267, 1, none⟩ = some (.int .i64 t263) ∧ w'.cell? ⟨gb267, 2, none⟩ = some (u268002) ∧ w'.cell? ⟨gb260, 0, none⟩ = some (.int .i64 a0_0) ∧ w'.cell? ⟨gb260, 1, none⟩ = some (.int .i64 a0_1) ∧ w'.cell? ⟨gb260, 2, none⟩ = some (.slice (some ad268) l0_2.length c0_2) ∧ w'.cell? (ad268.add ((x6_1).toNat * 3)) = some (.string ((rd_T89 l0_2 x6_1).f0)) ∧ w'.cell? ⟨(ad268.add ((x6_1).toNat * 3)).block, (ad268.add ((x6_1).toNat * 3)).off + 1, none⟩ = some (.int .i64 ((rd_T89 l0_2 x6_1).f1.f0)) ∧ w'.cell? ⟨(ad268.add ((x6_1).toNat * 3)).block, (ad268.add ((x6_1).toNat * 3)).off + 2, none⟩ = some (.int .i64 ((rd_T89 l0_2 x6_1).f1.f1))) (ds := [10]) #[false, false, false, false, false, false, false, false, false, false, false] (by kernel_rfl) rfl rfl ⟨(blk_cell BK267.out 0).trans rfl, (blk_cell BK267.out 1).trans rfl, (blk_cell BK267.out 2).trans rfl, (blk_cell BK260.out 0).trans rfl, (blk_cell BK260.out 1).trans rfl, (blk_cell BK260.out 2).trans rfl, (zH HB hw269_0 :), (zH HB hw269_1 :), (zH HB hw269_2 :)⟩ (fun hHeld => ?_); refine with_tabW spec_l01Part.tab6 spec_l01Part.bits6 (fun HT_ HW_ => ?_)
             generalize wr.drew = w21 at HO_268002 BK260 BK261 BK267 HB hx269_0 hx269_1 hx269_2 hHeld ⊢
             refine zP 0 (N := some 25) (h := ?_)
             refine zP 2 (N := some 27) (h := ?_)
             refine zP 4 (N := some 29) (h := ?_)
             refine zT 1 hHeld (N := some 26) (h := ?_)
             refine zT 3 hHeld (N := some 28) (h := ?_)
             refine zP 5 (N := some 30) (h := ?_)
             refine zT 6 hHeld (N := some 31) (h := ?_)
             refine one_ (i := 7) (N := some 32) #[true, true, true, true, true, true, true, true, false, false, false] rfl rfl (one_of HT_.out (by kernel_rfl)) (by decide) (fun K hK => ?_)
             refine value_ (w1 := ?_) (v := ?_) (by rfl) rfl ?_ ?_
             rotate_left 2
             ·go_simp
              constructor
              ·rfl
              ·rfl
             refine hK.out _ _ ⟨(blk_cell (blk_alloc BK267.out _) 0).trans rfl, (blk_cell (blk_alloc BK267.out _) 1).trans rfl, (blk_cell (blk_alloc BK267.out _) 2).trans rfl, (blk_cell (blk_alloc BK260.out _) 0).trans rfl, (blk_cell (blk_alloc BK260.out _) 1).trans rfl, (blk_cell (blk_alloc BK260.out _) 2).trans rfl, (World.cell?_alloc_lt _ _ _ (World.block_lt_of_cell? _ _ ((zH HB hw269_0 :)))).trans ((zH HB hw269_0 :)), (World.cell?_alloc_lt _ _ _ (World.block_lt_of_cell? _ _ ((zH HB hw269_1 :)))).trans ((zH HB hw269_1 :)), (World.cell?_alloc_lt _ _ _ (World.block_lt_of_cell? _ _ ((zH HB hw269_2 :)))).trans ((zH HB hw269_2 :))⟩ (fun hHeld => ?_)
             clear hK K
             refine norm_ (a' := ?_) ?_ ?_
             rotate_left
             ·show Act.put _ (some 32) _ = _
              simp only [Act.put, List.setIfInBounds_toArray, List.set_cons_zero, List.set_cons_succ, i64_w, i32_w]
              rfl
             refine one_ (i := 8) (N := some 33) #[true, true, true, true, true, true, true, true, true, false, false] rfl rfl (one_of HT_.out (by kernel_rfl)) (by decide) (fun K hK => ?_)
             refine Kd.R_append_step k89 (w0 := w) w.heap.size (by rfl) (.tmp 26) (.tmp 32) 30 89 (.agg #[(.string ⟨#[]⟩), (.int .i64 0), (.int .i64 0)]) 32 rfl Try.underlying30 info89 rfl (by decide) (by omega) u268002 x268002_1 (⟨(rd_T89 l0_2 x6_1).f0, (⟨(rd_T89 l0_2 x6_1).f1.f0, (rd_T89 l0_2 x6_1).f1.f1⟩ : S27)⟩ : S89) [.string ((rd_T89 l0_2 x6_1).f0), .int .i64 ((rd_T89 l0_2 x6_1).f1.f0), .int .i64 ((rd_T89 l0_2 x6_1).f1.f1)] (fun _ => True) (fun _ => False) rfl rfl ?aP (fun _ hk => hk.elim) ?aF ?aO ?aB ?aS ?aL ?_
             (case aP => exact k89_mkM _ _ _ (⟨(rd_T89 l0_2 x6_1).f0, (⟨(rd_T89 l0_2 x6_1).f1.f0, (rd_T89 l0_2 x6_1).f1.f1⟩ : S27)⟩ : S89))
             (case aB => exact zB)
             (case aF => exact (fun _ _ => trivial))
             (case aO => exact zR)
             (case aS => exact (below_size zB))
             (case aL => have := LMc17.out; omega)
             intro v271 w22 ho hb hg hat
             rw [← Ny270.out] at ho
             have HO272 := Aside0.mk (ho)
             replace BK260 := Aside0.mk (blk_grown (g := gb260) (o := .cells #[.int .i64 a0_0, .int .i64 a0_1, .slice (some ad268) l0_2.length c0_2] 32 (0, 0)) zK hg (Kd.R_ne HO_268002.out BK260.out (by decide)))
             replace BK261 := Aside0.mk (blk_grown (g := gb261) (o := .cells #[.int .i64 0, .int .i64 0, .slice none 0 0] 32 (0, 0)) zK hg (Kd.R_ne HO_268002.out BK261.out (by decide)))
             replace BK267 := Aside0.mk (blk_grown (g := gb267) (o := .cells #[.int .i64 t262, .int .i64 t263, u268002] 32 (0, 0)) zK hg (Kd.R_ne HO_268002.out BK267.out (by decide)))
             replace HB := Aside0.mk (hb)
             clear HO_268002
             clear ho hb hg hat
             obtain ⟨Ao23, co23, eo23⟩ := Kd.R_slice HO272.out
             (first | subst eo23 | (injection eo23 with f1_ f2_ f3_; have f4_ := f1_.symm; have f5_ := f3_.symm; clear f1_ f2_ f3_; subst f4_; subst f5_))
             refine hK.out _ _ ⟨(blk_cell BK267.out 0).trans rfl, (blk_cell BK267.out 1).trans rfl, (blk_cell BK267.out 2).trans rfl, (blk_cell BK260.out 0).trans rfl, (blk_cell BK260.out 1).trans rfl, (blk_cell BK260.out 2).trans rfl, (zH HB hw269_0 :), (zH HB hw269_1 :), (zH HB hw269_2 :)⟩ (fun hHeld => ?_)
             clear hK K
             refine norm_ (a' := ?_) ?_ ?_
             rotate_left
             ·show Act.put _ (some 33) _ = _
              simp only [Act.put, List.setIfInBounds_toArray, List.set_cons_zero, List.set_cons_succ, i64_w, i32_w]
              rfl
             refine zP 9 (N := some 34) (h := ?_)
             refine last_ (i := 10) (N := none) #[true, true, true, true, true, true, true, true, true, true, true] rfl rfl (one_of HT_.out (by kernel_rfl)) (by decide) (fun K hK => ?_)
             have hs24 : w22.cell? ⟨gb267, 2, none⟩ = some (u268002) := (blk_cell BK267.out 2).trans rfl
             have hfs24 := blk_frozen BK267.out 2
             have hns24_0 := NB260_267.out
             have hns24_1 := NB261_267.out
             have hms24_0 := NB267_260.out
             have hms24_1 := NB267_261.out
             refine skip_ (w1 := ?_) (by rfl) rfl ?_ ?_
             rotate_left
             ·go_simp
              rfl
             refine hK.out _ _ ?_
             clear hK K
             refine done_ (done_of HT_.out (by kernel_rfl)) ?_
             try go_wp2
             go_roundg k1
             case measure => have := HK1.out; omega
             case rel => exact ⟨(wrap64 (x6_1 + 1)), (y270), (.slice Ao23 y270.length co23), (by first | rfl | (simp; done) | (simp [*]; done)), H', ⟨by have := HK1.out; omega⟩, ⟨by (with_reducible repeat (first | apply Kd.R_alloc | apply Kd.R_drewN | apply Kd.R_drew)); exact Kd.R_mono (Kd.R_far (p := ⟨gb267, 2, none⟩) (Kd.R_types HO272.out BK267.out (by decide)) (fun _ hk => hk.2) (.slice Ao23 y270.length co23)) (fun _ hk => trivial)⟩, ⟨by (with_reducible repeat (first | refine blk_drewN ?_ _ | refine blk_drew ?_ | refine blk_alloc ?_ _)); refine blk_far ?_ NB260_267.out _; (with_reducible repeat (first | refine blk_drewN ?_ _ | refine blk_drew ?_ | refine blk_alloc ?_ _)); exact BK260.out⟩, ⟨by (with_reducible repeat (first | refine blk_drewN ?_ _ | refine blk_drew ?_ | refine blk_alloc ?_ _)); refine blk_far ?_ NB261_267.out _; (with_reducible repeat (first | refine blk_drewN ?_ _ | refine blk_drew ?_ | refine blk_alloc ?_ _)); exact BK261.out⟩, ⟨by (with_reducible repeat (first | refine blk_drewN ?_ _ | refine blk_drew ?_ | refine blk_alloc ?_ _)); refine blk_put (cs := #[.int .i64 t262, .int .i64 t263, u268002]) ?_ 2 _ rfl; (with_reducible repeat (first | refine blk_drewN ?_ _ | refine blk_drew ?_ | refine blk_alloc ?_ _)); exact BK267.out⟩, ⟨zB⟩⟩
            ·rw [if_neg c17] at H
             exact absurd H (by simp)
          · rw [if_neg c16] at H
            have c16b0 : ((((rd_T89 l0_2 x6_1).f0).size : Int) == a1) = false := beq_eq_false_iff_ne.mpr c16
            have c16b1 : ((((rd_T89 l0_2 x6_1).f0).size : Int) != a1) = true := bne_iff_ne.mpr c16
            have H' := Aside0.mk H
            clear H
            have hnb25 := NB260_261.out
            have hnc25 := NB261_260.out
            have hnb26 := NB260_267.out
            have hnc26 := NB267_260.out
            obtain ⟨hcz27_0, hcz27_1, hcz27_2, hfz27_0, hfz27_1, hfz27_2⟩ := zC3 BK260
            have p268 : 0 ≤ (x6_1 : Int) := zD
            have q268 : x6_1 < (l0_2.length : Int) := zD
            obtain ⟨ad268, e268, hx268_0, hx268_1, hx268_2⟩ := at_T89 HR0_2.out x6_1 p268 q268
            cases e268
            replace hx268_0 := zH HB hx268_0
            replace hx268_1 := zH HB hx268_1
            replace hx268_2 := zH HB hx268_2
            replace p268 := eq_true p268
            replace q268 := eq_true q268
            go_wp2
            go_roundg k1
            case measure => have := HK1.out; omega
            case rel => exact ⟨(wrap64 (x6_1 + 1)), (x268002_1), (u268002), (by first | rfl | (simp; done) | (simp [*]; done)), H', ⟨by have := HK1.out; omega⟩, ⟨zR⟩, ⟨zK⟩, ⟨zK⟩, ⟨zK⟩, ⟨zB⟩⟩
        · rw [if_neg c15] at H
          exact absurd H (by simp)
      · rw [if_neg c14] at H
        have c14b0 : decide (x6_1 < (l0_2.length : Int)) = false := decide_eq_false c14
        clear c14
        simp only [Option.some.injEq, Prod.mk.injEq] at H
        obtain ⟨rfl, rfl, rfl⟩ := H
        have hnb28 := NB260_261.out
        have hnc28 := NB261_260.out
        have hnb29 := NB260_267.out
        have hnc29 := NB267_260.out
        obtain ⟨hcz30_0, hcz30_1, hcz30_2, hfz30_0, hfz30_1, hfz30_2⟩ := zC3 BK260
        have hnb31 := NB267_261.out
        have hnc31 := NB261_267.out
        obtain ⟨hcz32_0, hcz32_1, hcz32_2, hfz32_0, hfz32_1, hfz32_2⟩ := zC3 BK267
        obtain ⟨hcz33_0, hcz33_1, hcz33_2, hfz33_0, hfz33_1, hfz33_2⟩ := zC3 BK261
        obtain ⟨Ao34, co34, eo34⟩ := Kd.R_slice HO_268002.out
        subst eo34
        go_wp2
        refine bodyPost_ret (results_cell_row rfl _ _ gb261 32 #[.int .i64 t262, .int .i64 t263, .slice Ao34 x268002_1.length co34] (0, 0) _ rfl (by (with_reducible repeat (first | refine blk_drewN ?_ _ | refine blk_drew ?_ | refine blk_alloc ?_ _)); refine blk_put (cs := #[.int .i64 t262, .int .i64 t263, .slice none 0 0]) ?_ 2 _ rfl; (with_reducible repeat (first | refine blk_drewN ?_ _ | refine blk_drew ?_ | refine blk_alloc ?_ _)); refine blk_put (cs := #[.int .i64 t262, .int .i64 0, .slice none 0 0]) ?_ 1 _ rfl; (with_reducible repeat (first | refine blk_drewN ?_ _ | refine blk_drew ?_ | refine blk_alloc ?_ _)); refine blk_put (cs := #[.int .i64 0, .int .i64 0, .slice none 0 0]) ?_ 0 _ rfl; exact zK) Try.underlying32 rfl (by kernel_rfl)) rfl ?_
        exact ⟨_, by first | rfl | (simp [errW_none, errW_some] <;> rfl) | (simp [*, errW_none, errW_some] <;> rfl), by (with_reducible repeat (first | apply Kd.R_alloc | apply Kd.R_drewN | apply Kd.R_drew)); exact Kd.R_mono (Kd.R_far (p := ⟨gb261, 2, none⟩) (Kd.R_far (p := ⟨gb261, 1, none⟩) (Kd.R_far (p := ⟨gb261, 0, none⟩) (Kd.R_types HO_268002.out BK261.out (by decide)) (fun _ hk => hk.2) (.int .i64 t262)) (fun _ hk => hk.2) (.int .i64 t263)) (fun _ hk => hk.2) (.slice Ao34 x268002_1.length co34)) (fun _ hk => trivial), zB⟩


/-! ### spec_LeadingPart: function 36 -/
def spec_LeadingPart.f (k : Nat) (a0 : Int) (a1 : Int) (l2 : List Int) : Option (Int × Int × (List (S89)) × Int) := (spec_l09Code.f k a0 a1 l2).bind fun t274 => (if t274 = 0 then ((spec_l09Signature.f k a0 a1 l2).bind fun bt275 => ((spec_l09Depth.f k bt275.1 bt275.2.1 bt275.2.2).bind fun t281 => (if t281 = 0 then ((spec_l01Empty.f bt275.1 bt275.2.1 bt275.2.2).bind fun bt282 => (some (bt282.1, bt282.2.1, bt282.2.2, 0))) else ((spec_l01Part.f k bt275.1 bt275.2.1 bt275.2.2 t281).bind fun bt287 => (some (bt287.1, bt287.2.1, bt287.2.2, 0)))))) else (some (0, 0, ([] : List (S89)), t274)))
theorem spec_LeadingPart.mono : ∀ a0 a1 a2 k, LeO (spec_LeadingPart.f k a0 a1 a2) (spec_LeadingPart.f (k + 1) a0 a1 a2) := by
  intro a0 a1 a2 k
  unfold spec_LeadingPart.f
  repeat' first
      | (with_reducible exact spec_l01Part.mono _ _ _ _ _)
      | (with_reducible exact spec_l09Code.mono _ _ _ _)
      | (with_reducible exact spec_l09Depth.mono _ _ _ _)
      | (with_reducible exact spec_l09Signature.mono _ _ _ _)
      | (with_reducible exact LeO.refl _)
      | (with_reducible exact LeO.none _)
      | (with_reducible refine LeO.ite ?_ ?_)
      | (with_reducible refine LeO.bind ?_ (fun _ => ?_))
set_option maxHeartbeats 8000000 in
set_option maxRecDepth 100000 in
theorem spec_LeadingPart.calls (k : Nat) (a0 : Int) (a1 : Int) (A2 : Option Addr) (c2 : Nat) (l2 : List Int) (r1 : Int) (r2 : Int) (r3 : List (S89)) (r4 : Int) (w : World) (hr2 : Kd.C (Kd.int .i64) w A2 l2.length l2) (hc2 : l2.length ≤ c2) (h : spec_LeadingPart.f k a0 a1 l2 = some (r1, r2, r3, r4)) :
    Calls Try.prog 36 #[.int .i64 a0, .int .i64 a1, .slice A2 l2.length c2] w fun e w' => ∃ v2_ : Value, e = .returned (.tuple #[.agg #[.int .i64 r1, .int .i64 r2, v2_], .int .i64 r4]) ∧ Kd.R k89 89 w' w.heap.size (fun _ => True) v2_ r3 ∧ Below w.heap.size w w' := by
  have hu32 := Try.underlying32
  have HR2 := Aside0.mk hr2
  have HC2 := Aside0.mk hc2
  clear hr2 hc2
  have HB := Aside0.mk (Below.refl w.heap.size w)
  have H : ((spec_l09Code.f k a0 a1 l2).bind fun t274 => (if t274 = 0 then ((spec_l09Signature.f k a0 a1 l2).bind fun bt275 => ((spec_l09Depth.f k bt275.1 bt275.2.1 bt275.2.2).bind fun t281 => (if t281 = 0 then ((spec_l01Empty.f bt275.1 bt275.2.1 bt275.2.2).bind fun bt282 => (some (bt282.1, bt282.2.1, bt282.2.2, 0))) else ((spec_l01Part.f k bt275.1 bt275.2.1 bt275.2.2 t281).bind fun bt287 => (some (bt287.1, bt287.2.1, bt287.2.2, 0)))))) else (some (0, 0, ([] : List (S89)), t274)))) = some (r1, r2, r3, r4) := h
  clear h
  replace H := Option.bind_eq_some_iff.mp H
  obtain ⟨t274, A40, H⟩ := H
  replace H : (if t274 = 0 then ((spec_l09Signature.f k a0 a1 l2).bind fun bt275 => ((spec_l09Depth.f k bt275.1 bt275.2.1 bt275.2.2).bind fun t281 => (if t281 = 0 then ((spec_l01Empty.f bt275.1 bt275.2.1 bt275.2.2).bind fun bt282 => (some (bt282.1, bt282.2.1, bt282.2.2, 0))) else ((spec_l01Part.f k bt275.1 bt275.2.1 bt275.2.2 t281).bind fun bt287 => (some (bt287.1, bt287.2.1, bt287.2.2, 0)))))) else (some (0, 0, ([] : List (S89)), t274))) = some (r1, r2, r3, r4) := H
  have A4 := Aside0.mk A40
  clear A40
  by_cases c5 : t274 = 0
  · rw [if_pos c5] at H
    have c5b0 : (t274 == 0) = true := beq_iff_eq.mpr c5
    have c5b1 : (t274 != 0) = false := bne_eq_false_iff_eq.mpr c5
    clear c5
    replace H := Option.bind_eq_some_iff.mp H
    obtain ⟨⟨t275, t276, t277⟩, A60, H⟩ := H
    replace H : ((spec_l09Depth.f k t275 t276 t277).bind fun t281 => (if t281 = 0 then ((spec_l01Empty.f t275 t276 t277).bind fun bt282 => (some (bt282.1, bt282.2.1, bt282.2.2, 0))) else ((spec_l01Part.f k t275 t276 t277 t281).bind fun bt287 => (some (bt287.1, bt287.2.1, bt287.2.2, 0))))) = some (r1, r2, r3, r4) := H
    have A6 := Aside0.mk A60
    clear A60
    replace H := Option.bind_eq_some_iff.mp H
    obtain ⟨t281, A70, H⟩ := H
    replace H : (if t281 = 0 then ((spec_l01Empty.f t275 t276 t277).bind fun bt282 => (some (bt282.1, bt282.2.1, bt282.2.2, 0))) else ((spec_l01Part.f k t275 t276 t277 t281).bind fun bt287 => (some (bt287.1, bt287.2.1, bt287.2.2, 0)))) = some (r1, r2, r3, r4) := H
    have A7 := Aside0.mk A70
    clear A70
    by_cases c8 : t281 = 0
    · rw [if_pos c8] at H
      have c8b0 : (t281 == 0) = true := beq_iff_eq.mpr c8
      have c8b1 : (t281 != 0) = false := bne_eq_false_iff_eq.mpr c8
      clear c8
      replace H := Option.bind_eq_some_iff.mp H
      obtain ⟨⟨t282, t283, t284⟩, A90, H⟩ := H
      replace H : (some (t282, t283, t284, 0)) = some (r1, r2, r3, r4) := H
      have A9 := Aside0.mk A90
      clear A90
      simp only [Option.some.injEq, Prod.mk.injEq] at H
      obtain ⟨rfl, rfl, rfl, rfl⟩ := H
      go_enter Try.func36, Try.ntmps36
      go_wp2_with (first | ((with_reducible refine gate_dst (N := 6) rfl ?_); refine box_event ?hg (N := 6) ?hd (cs := #[.int .i64 0, .int .i64 0, .slice none 0 0]) (t := 32) ?hr ?_; (case hd => rfl); (case hg => rfl); (case hr => first | (go_simp; done) | (go_simp; rfl)); intro gb273 hg w10 hbox hb; have n0_ := Aside0.mk (below_step zB hb); have n1_ := Aside0.mk (hbox); have n2_ := Aside0.mk (zG : w.heap.size ≤ gb273); have n3_ := Aside0.mk (zG : w.heap.size ≤ gb273); clear HB; have HB := n0_; have BK273 := n1_; have GW273 := n2_; have GE273 := n3_; clear n0_ n1_ n2_ n3_; clear hb hbox hg) | ((with_reducible refine gate_callee (f := 68) rfl ?_); refine goesL_ (some 14) rfl rfl Try.func68 (by kernel_rfl) rfl #[.int .i64 a0, .int .i64 a1, .slice A2 l2.length c2] rfl zM ?_; (with_reducible refine (spec_l09Code.calls k a0 a1 _ _ l2 t274 _ ?side1 ?side2 A4.out).mono ?_); (case side1 => repeat (first | exact (Kd.C_below HR2.out HB.out) | (with_reducible refine Kd.C_alloc ?_ _) | (with_reducible refine Kd.C_drewN ?_ _) | (with_reducible refine Kd.C_drew ?_))); (case side2 => exact HC2.out); rintro e w' ⟨rfl, ⟨nd, rfl⟩⟩; refine ⟨_, rfl, ?_⟩; (try (rw [drewN_self w10]; generalize hq_ : World.drewN w10 _ = w10; have n0_ : Aside0 (w10.heap[gb273]? = some (.cells #[.int .i64 0, .int .i64 0, .slice none 0 0] 32 (0, 0))) := ⟨by rw [← hq_]; exact zK⟩; have n1_ : Aside0 (Below w.heap.size w w10) := ⟨by rw [← hq_]; exact zB⟩; clear BK273 HB hq_; have BK273 := n0_; have HB := n1_; clear n0_ n1_))) | ((with_reducible refine gate_callee (f := 70) rfl ?_); refine goesL_ (some 22) rfl rfl Try.func70 (by kernel_rfl) rfl #[.int .i64 a0, .int .i64 a1, .slice A2 l2.length c2] rfl zM ?_; (with_reducible refine (spec_l09Signature.calls k a0 a1 _ _ l2 t275 t276 t277 _ ?side1 ?side2 A6.out).mono ?_); (case side1 => repeat (first | exact (Kd.C_below HR2.out HB.out) | (with_reducible refine Kd.C_alloc ?_ _) | (with_reducible refine Kd.C_drewN ?_ _) | (with_reducible refine Kd.C_drew ?_))); (case side2 => exact HC2.out); rintro e w11 ⟨v278, rfl, ho0, hb⟩; refine ⟨_, rfl, ?_⟩; have n0_ := Aside0.mk (Kd.R_lower ho0 (below_size zB)); have n1_ := Aside0.mk (blk_below (g := gb273) (o := .cells #[.int .i64 0, .int .i64 0, .slice none 0 0] 32 (0, 0)) zK hb); have n2_ := Aside0.mk (below_step zB hb); clear BK273; clear HB; have HO279 := n0_; have BK273 := n1_; have HB := n2_; clear n0_ n1_ n2_; (try clear hb); (try clear hb2); (try clear hk); (try clear hi); (try clear ho0)) | ((with_reducible refine gate_dst (N := 9) rfl ?_); refine box_event ?hg (N := 9) ?hd (cs := #[.int .i64 0, .int .i64 0, .slice none 0 0]) (t := 32) ?hr ?_; (case hd => rfl); (case hg => rfl); (case hr => first | (go_simp; done) | (go_simp; rfl)); intro gb280 hg w12 hbox hb; have n0_ := Aside0.mk (Kd.R_below (by (with_reducible repeat (first | apply Kd.R_alloc | apply Kd.R_drewN | apply Kd.R_drew)); exact HO279.out) hb); have n1_ := Aside0.mk (blk_below (g := gb273) (o := .cells #[.int .i64 0, .int .i64 0, .slice none 0 0] 32 (0, 0)) zK hb); have n2_ := Aside0.mk (below_step zB hb); have n3_ := Aside0.mk (hbox); have n4_ := Aside0.mk (zG : w.heap.size ≤ gb280); have n5_ := Aside0.mk (zG : w.heap.size ≤ gb280); have n6_ := Aside0.mk ((by rw [hg]; exact Nat.ne_of_lt (blk_lt (g := gb273) (o := .cells #[.int .i64 0, .int .i64 0, .slice none 0 0] 32 (0, 0)) zK) : gb273 ≠ gb280)); have n7_ := Aside0.mk ((by rw [hg]; exact Nat.ne_of_gt (blk_lt (g := gb273) (o := .cells #[.int .i64 0, .int .i64 0, .slice none 0 0] 32 (0, 0)) zK) : gb280 ≠ gb273)); clear HO279; clear BK273; clear HB; have HO279 := n0_; have BK273 := n1_; have HB := n2_; have BK280 := n3_; have GW280 := n4_; have GE280 := n5_; have NB273_280 := n6_; have NB280_273 := n7_; clear n0_ n1_ n2_ n3_ n4_ n5_ n6_ n7_; clear hb hbox hg; have hnb13 := NB280_273.out; have hnc13 := NB273_280.out; have hcz14_0 : w12.cell? ⟨gb280, 0, none⟩ = some (.int .i64 0) := zE BK280; have hcz14_1 : w12.cell? ⟨gb280, 1, none⟩ = some (.int .i64 0) := zE BK280; have hcz14_2 : w12.cell? ⟨gb280, 2, none⟩ = some (.slice none 0 0) := zE BK280; have hfz14_0 := blk_frozen BK280.out 0; have hfz14_1 := blk_frozen BK280.out 1; have hfz14_2 := blk_frozen BK280.out 2; obtain ⟨Ao15, co15, eo15⟩ := Kd.R_slice HO279.out; subst eo15) | ((with_reducible refine gate_callee (f := 69) rfl ?_); refine goesL_ (some 24) rfl rfl Try.func69 (by kernel_rfl) rfl #[.agg #[.int .i64 t275, .int .i64 t276, .slice Ao15 t277.length co15]] rfl zM ?_; (with_reducible refine (spec_l09Depth.calls k t275 t276 _ _ t277 t281 _ ?side1 ?side2 A7.out).mono ?_); (case side1 => refine (Kd.R_reads' (e := 89) (base := w.heap.size) (ok := fun k_ => True) (n := t277.length) (c := co15) ?_).2.2; exact (by (with_reducible repeat (first | apply Kd.R_alloc | apply Kd.R_drewN | apply Kd.R_drew)); exact (Kd.R_mono (Kd.R_far (p := ⟨gb280, 2, none⟩) (Kd.R_far (p := ⟨gb280, 1, none⟩) (Kd.R_far (p := ⟨gb280, 0, none⟩) (Kd.R_types HO279.out BK280.out (by decide)) (fun _ hk => hk.2) (.int .i64 t275)) (fun _ hk => hk.2) (.int .i64 t276)) (fun _ hk => hk.2) (.slice Ao15 t277.length co15)) (fun _ h_ => h_.1)))); (case side2 => exact (Kd.R_reads' HO279.out).2.1); rintro e w16 ⟨rfl, hb⟩; refine ⟨_, rfl, ?_⟩; have n0_ := Aside0.mk (Kd.R_below (by (with_reducible repeat (first | apply Kd.R_alloc | apply Kd.R_drewN | apply Kd.R_drew)); exact (Kd.R_mono (Kd.R_far (p := ⟨gb280, 2, none⟩) (Kd.R_far (p := ⟨gb280, 1, none⟩) (Kd.R_far (p := ⟨gb280, 0, none⟩) (Kd.R_types HO279.out BK280.out (by decide)) (fun _ hk => hk.2) (.int .i64 t275)) (fun _ hk => hk.2) (.int .i64 t276)) (fun _ hk => hk.2) (.slice Ao15 t277.length co15)) (fun _ h_ => h_.1))) hb); have n1_ := Aside0.mk (blk_below (g := gb273) (o := .cells #[.int .i64 0, .int .i64 0, .slice none 0 0] 32 (0, 0)) (by (with_reducible repeat (first | refine blk_drewN ?_ _ | refine blk_drew ?_ | refine blk_alloc ?_ _)); refine blk_far ?_ NB273_280.out _; (with_reducible repeat (first | refine blk_drewN ?_ _ | refine blk_drew ?_ | refine blk_alloc ?_ _)); refine blk_far ?_ NB273_280.out _; (with_reducible repeat (first | refine blk_drewN ?_ _ | refine blk_drew ?_ | refine blk_alloc ?_ _)); refine blk_far ?_ NB273_280.out _; exact zK) hb); have n2_ := Aside0.mk (blk_below (g := gb280) (o := .cells #[.int .i64 t275, .int .i64 t276, .slice Ao15 t277.length co15] 32 (0, 0)) (by (with_reducible repeat (first | refine blk_drewN ?_ _ | refine blk_drew ?_ | refine blk_alloc ?_ _)); refine blk_put (cs := #[.int .i64 t275, .int .i64 t276, .slice none 0 0]) ?_ 2 _ rfl; (with_reducible repeat (first | refine blk_drewN ?_ _ | refine blk_drew ?_ | refine blk_alloc ?_ _)); refine blk_put (cs := #[.int .i64 t275, .int .i64 0, .slice none 0 0]) ?_ 1 _ rfl; (with_reducible repeat (first | refine blk_drewN ?_ _ | refine blk_drew ?_ | refine blk_alloc ?_ _)); refine blk_put (cs := #[.int .i64 0, .int .i64 0, .slice none 0 0]) ?_ 0 _ rfl; exact zK) hb); have n3_ := Aside0.mk (below_step zB hb); clear HO279; clear BK273; clear BK280; clear HB; have HO279 := n0_; have BK273 := n1_; have BK280 := n2_; have HB := n3_; clear n0_ n1_ n2_ n3_; (try clear hb); (try clear hb2); (try clear hk); (try clear hi); have hcz17_0 : w16.cell? ⟨gb280, 0, none⟩ = some (.int .i64 t275) := zE BK280; have hcz17_1 : w16.cell? ⟨gb280, 1, none⟩ = some (.int .i64 t276) := zE BK280; have hcz17_2 : w16.cell? ⟨gb280, 2, none⟩ = some (.slice Ao15 t277.length co15) := zE BK280; have hfz17_0 := blk_frozen BK280.out 0; have hfz17_1 := blk_frozen BK280.out 1; have hfz17_2 := blk_frozen BK280.out 2) | ((with_reducible refine gate_callee (f := 77) rfl ?_); refine goesL_ (some 28) rfl rfl Try.func77 (by kernel_rfl) rfl #[.agg #[.int .i64 t275, .int .i64 t276, .slice Ao15 t277.length co15]] rfl zM ?_; (with_reducible refine (spec_l01Empty.calls t275 t276 _ _ t277 t282 t283 t284 _ ?side1 ?side2 A9.out).mono ?_); (case side1 => repeat (first | exact (Kd.R_reads' HO279.out).2.2 | (with_reducible refine Kd.C_alloc ?_ _) | (with_reducible refine Kd.C_drewN ?_ _) | (with_reducible refine Kd.C_drew ?_))); (case side2 => exact (Kd.R_reads' HO279.out).2.1); rintro e w18 ⟨v285, rfl, ho0, hb⟩; refine ⟨_, rfl, ?_⟩; have n0_ := Aside0.mk (Kd.R_elder' zR (Kd.R_base ho0) hb); have n1_ := Aside0.mk (Kd.R_lower (Kd.R_new' ho0 (Kd.R_lt (by (with_reducible repeat (first | apply Kd.R_alloc | apply Kd.R_drewN | apply Kd.R_drew)); exact HO279.out))) (below_size zB)); have n2_ := Aside0.mk (blk_below (g := gb273) (o := .cells #[.int .i64 0, .int .i64 0, .slice none 0 0] 32 (0, 0)) zK hb); have n3_ := Aside0.mk (blk_below (g := gb280) (o := .cells #[.int .i64 t275, .int .i64 t276, .slice Ao15 t277.length co15] 32 (0, 0)) zK hb); have n4_ := Aside0.mk (below_step zB hb); clear HO279; clear BK273; clear BK280; clear HB; have HO279 := n0_; have HO286 := n1_; have BK273 := n2_; have BK280 := n3_; have HB := n4_; clear n0_ n1_ n2_ n3_ n4_; (try clear hb); (try clear hb2); (try clear hk); (try clear hi); (try clear ho0); have hcz19_0 : w18.cell? ⟨gb273, 0, none⟩ = some (.int .i64 0) := zE BK273; have hcz19_1 : w18.cell? ⟨gb273, 1, none⟩ = some (.int .i64 0) := zE BK273; have hcz19_2 : w18.cell? ⟨gb273, 2, none⟩ = some (.slice none 0 0) := zE BK273; have hfz19_0 := blk_frozen BK273.out 0; have hfz19_1 := blk_frozen BK273.out 1; have hfz19_2 := blk_frozen BK273.out 2; obtain ⟨Ao20, co20, eo20⟩ := Kd.R_slice HO286.out; subst eo20))
      refine bodyPost_ret (results_ct rfl _ _ gb273 32 #[.int .i64 t282, .int .i64 t283, .slice Ao20 t284.length co20] (0, 0) _ rfl (by (with_reducible repeat (first | refine blk_drewN ?_ _ | refine blk_drew ?_ | refine blk_alloc ?_ _)); refine blk_put (cs := #[.int .i64 t282, .int .i64 t283, .slice none 0 0]) ?_ 2 _ rfl; (with_reducible repeat (first | refine blk_drewN ?_ _ | refine blk_drew ?_ | refine blk_alloc ?_ _)); refine blk_put (cs := #[.int .i64 t282, .int .i64 0, .slice none 0 0]) ?_ 1 _ rfl; (with_reducible repeat (first | refine blk_drewN ?_ _ | refine blk_drew ?_ | refine blk_alloc ?_ _)); refine blk_put (cs := #[.int .i64 0, .int .i64 0, .slice none 0 0]) ?_ 0 _ rfl; exact zK) Try.underlying32 rfl (by kernel_rfl)) rfl ?_
      exact ⟨_, by first | rfl | (simp [errW_none, errW_some] <;> rfl) | (simp [*, errW_none, errW_some] <;> rfl), by (with_reducible repeat (first | apply Kd.R_alloc | apply Kd.R_drewN | apply Kd.R_drew)); exact Kd.R_mono (Kd.R_far (p := ⟨gb273, 2, none⟩) (Kd.R_far (p := ⟨gb273, 1, none⟩) (Kd.R_far (p := ⟨gb273, 0, none⟩) (Kd.R_types HO286.out BK273.out (by decide)) (fun _ hk => hk.2) (.int .i64 t282)) (fun _ hk => hk.2) (.int .i64 t283)) (fun _ hk => hk.2) (.slice Ao20 t284.length co20)) (fun _ hk => trivial), zB⟩
    · rw [if_neg c8] at H
      have c8b0 : (t281 == 0) = false := beq_eq_false_iff_ne.mpr c8
      have c8b1 : (t281 != 0) = true := bne_iff_ne.mpr c8
      replace H := Option.bind_eq_some_iff.mp H
      obtain ⟨⟨t287, t288, t289⟩, A210, H⟩ := H
      replace H : (some (t287, t288, t289, 0)) = some (r1, r2, r3, r4) := H
      have A21 := Aside0.mk A210
      clear A210
      simp only [Option.some.injEq, Prod.mk.injEq] at H
      obtain ⟨rfl, rfl, rfl, rfl⟩ := H
      go_enter Try.func36, Try.ntmps36
      go_wp2_with (first | ((with_reducible refine gate_dst (N := 6) rfl ?_); refine box_event ?hg (N := 6) ?hd (cs := #[.int .i64 0, .int .i64 0, .slice none 0 0]) (t := 32) ?hr ?_; (case hd => rfl); (case hg => rfl); (case hr => first | (go_simp; done) | (go_simp; rfl)); intro gb273 hg w22 hbox hb; have n0_ := Aside0.mk (below_step zB hb); have n1_ := Aside0.mk (hbox); have n2_ := Aside0.mk (zG : w.heap.size ≤ gb273); have n3_ := Aside0.mk (zG : w.heap.size ≤ gb273); clear HB; have HB := n0_; have BK273 := n1_; have GW273 := n2_; have GE273 := n3_; clear n0_ n1_ n2_ n3_; clear hb hbox hg) | ((with_reducible refine gate_callee (f := 68) rfl ?_); refine goesL_ (some 14) rfl rfl Try.func68 (by kernel_rfl) rfl #[.int .i64 a0, .int .i64 a1, .slice A2 l2.length c2] rfl zM ?_; (with_reducible refine (spec_l09Code.calls k a0 a1 _ _ l2 t274 _ ?side1 ?side2 A4.out).mono ?_); (case side1 => repeat (first | exact (Kd.C_below HR2.out HB.out) | (with_reducible refine Kd.C_alloc ?_ _) | (with_reducible refine Kd.C_drewN ?_ _) | (with_reducible refine Kd.C_drew ?_))); (case side2 => exact HC2.out); rintro e w' ⟨rfl, ⟨nd, rfl⟩⟩; refine ⟨_, rfl, ?_⟩; (try (rw [drewN_self w22]; generalize hq_ : World.drewN w22 _ = w22; have n0_ : Aside0 (w22.heap[gb273]? = some (.cells #[.int .i64 0, .int .i64 0, .slice none 0 0] 32 (0, 0))) := ⟨by rw [← hq_]; exact zK⟩; have n1_ : Aside0 (Below w.heap.size w w22) := ⟨by rw [← hq_]; exact zB⟩; clear BK273 HB hq_; have BK273 := n0_; have HB := n1_; clear n0_ n1_))) | ((with_reducible refine gate_callee (f := 70) rfl ?_); refine goesL_ (some 22) rfl rfl Try.func70 (by kernel_rfl) rfl #[.int .i64 a0, .int .i64 a1, .slice A2 l2.length c2] rfl zM ?_; (with_reducible refine (spec_l09Signature.calls k a0 a1 _ _ l2 t275 t276 t277 _ ?side1 ?side2 A6.out).mono ?_); (case side1 => repeat (first | exact (Kd.C_below HR2.out HB.out) | (with_reducible refine Kd.C_alloc ?_ _) | (with_reducible refine Kd.C_drewN ?_ _) | (with_reducible refine Kd.C_drew ?_))); (case side2 => exact HC2.out); rintro e w23 ⟨v278, rfl, ho0, hb⟩; refine ⟨_, rfl, ?_⟩; have n0_ := Aside0.mk (Kd.R_lower ho0 (below_size zB)); have n1_ := Aside0.mk (blk_below (g := gb273) (o := .cells #[.int .i64 0, .int .i64 0, .slice none 0 0] 32 (0, 0)) zK hb); have n2_ := Aside0.mk (below_step zB hb); clear BK273; clear HB; have HO279 := n0_; have BK273 := n1_; have HB := n2_; clear n0_ n1_ n2_; (try clear hb); (try clear hb2); (try clear hk); (try clear hi); (try clear ho0)) | ((with_reducible refine gate_dst (N := 9) rfl ?_); refine box_event ?hg (N := 9) ?hd (cs := #[.int .i64 0, .int .i64 0, .slice none 0 0]) (t := 32) ?hr ?_; (case hd => rfl); (case hg => rfl); (case hr => first | (go_simp; done) | (go_simp; rfl)); intro gb280 hg w24 hbox hb; have n0_ := Aside0.mk (Kd.R_below (by (with_reducible repeat (first | apply Kd.R_alloc | apply Kd.R_drewN | apply Kd.R_drew)); exact HO279.out) hb); have n1_ := Aside0.mk (blk_below (g := gb273) (o := .cells #[.int .i64 0, .int .i64 0, .slice none 0 0] 32 (0, 0)) zK hb); have n2_ := Aside0.mk (below_step zB hb); have n3_ := Aside0.mk (hbox); have n4_ := Aside0.mk (zG : w.heap.size ≤ gb280); have n5_ := Aside0.mk (zG : w.heap.size ≤ gb280); have n6_ := Aside0.mk ((by rw [hg]; exact Nat.ne_of_lt (blk_lt (g := gb273) (o := .cells #[.int .i64 0, .int .i64 0, .slice none 0 0] 32 (0, 0)) zK) : gb273 ≠ gb280)); have n7_ := Aside0.mk ((by rw [hg]; exact Nat.ne_of_gt (blk_lt (g := gb273) (o := .cells #[.int .i64 0, .int .i64 0, .slice none 0 0] 32 (0, 0)) zK) : gb280 ≠ gb273)); clear HO279; clear BK273; clear HB; have HO279 := n0_; have BK273 := n1_; have HB := n2_; have BK280 := n3_; have GW280 := n4_; have GE280 := n5_; have NB273_280 := n6_; have NB280_273 := n7_; clear n0_ n1_ n2_ n3_ n4_ n5_ n6_ n7_; clear hb hbox hg; have hnb25 := NB280_273.out; have hnc25 := NB273_280.out; have hcz26_0 : w24.cell? ⟨gb280, 0, none⟩ = some (.int .i64 0) := zE BK280; have hcz26_1 : w24.cell? ⟨gb280, 1, none⟩ = some (.int .i64 0) := zE BK280; have hcz26_2 : w24.cell? ⟨gb280, 2, none⟩ = some (.slice none 0 0) := zE BK280; have hfz26_0 := blk_frozen BK280.out 0; have hfz26_1 := blk_frozen BK280.out 1; have hfz26_2 := blk_frozen BK280.out 2; obtain ⟨Ao27, co27, eo27⟩ := Kd.R_slice HO279.out; subst eo27) | ((with_reducible refine gate_callee (f := 69) rfl ?_); refine goesL_ (some 24) rfl rfl Try.func69 (by kernel_rfl) rfl #[.agg #[.int .i64 t275, .int .i64 t276, .slice Ao27 t277.length co27]] rfl zM ?_; (with_reducible refine (spec_l09Depth.calls k t275 t276 _ _ t277 t281 _ ?side1 ?side2 A7.out).mono ?_); (case side1 => refine (Kd.R_reads' (e := 89) (base := w.heap.size) (ok := fun k_ => True) (n := t277.length) (c := co27) ?_).2.2; exact (by (with_reducible repeat (first | apply Kd.R_alloc | apply Kd.R_drewN | apply Kd.R_drew)); exact (Kd.R_mono (Kd.R_far (p := ⟨gb280, 2, none⟩) (Kd.R_far (p := ⟨gb280, 1, none⟩) (Kd.R_far (p := ⟨gb280, 0, none⟩) (Kd.R_types HO279.out BK280.out (by decide)) (fun _ hk => hk.2) (.int .i64 t275)) (fun _ hk => hk.2) (.int .i64 t276)) (fun _ hk => hk.2) (.slice Ao27 t277.length co27)) (fun _ h_ => h_.1)))); (case side2 => exact (Kd.R_reads' HO279.out).2.1); rintro e w28 ⟨rfl, hb⟩; refine ⟨_, rfl, ?_⟩; have n0_ := Aside0.mk (Kd.R_below (by (with_reducible repeat (first | apply Kd.R_alloc | apply Kd.R_drewN | apply Kd.R_drew)); exact (Kd.R_mono (Kd.R_far (p := ⟨gb280, 2, none⟩) (Kd.R_far (p := ⟨gb280, 1, none⟩) (Kd.R_far (p := ⟨gb280, 0, none⟩) (Kd.R_types HO279.out BK280.out (by decide)) (fun _ hk => hk.2) (.int .i64 t275)) (fun _ hk => hk.2) (.int .i64 t276)) (fun _ hk => hk.2) (.slice Ao27 t277.length co27)) (fun _ h_ => h_.1))) hb); have n1_ := Aside0.mk (blk_below (g := gb273) (o := .cells #[.int .i64 0, .int .i64 0, .slice none 0 0] 32 (0, 0)) (by (with_reducible repeat (first | refine blk_drewN ?_ _ | refine blk_drew ?_ | refine blk_alloc ?_ _)); refine blk_far ?_ NB273_280.out _; (with_reducible repeat (first | refine blk_drewN ?_ _ | refine blk_drew ?_ | refine blk_alloc ?_ _)); refine blk_far ?_ NB273_280.out _; (with_reducible repeat (first | refine blk_drewN ?_ _ | refine blk_drew ?_ | refine blk_alloc ?_ _)); refine blk_far ?_ NB273_280.out _; exact zK) hb); have n2_ := Aside0.mk (blk_below (g := gb280) (o := .cells #[.int .i64 t275, .int .i64 t276, .slice Ao27 t277.length co27] 32 (0, 0)) (by (with_reducible repeat (first | refine blk_drewN ?_ _ | refine blk_drew ?_ | refine blk_alloc ?_ _)); refine blk_put (cs := #[.int .i64 t275, .int .i64 t276, .slice none 0 0]) ?_ 2 _ rfl; (with_reducible repeat (first | refine blk_drewN ?_ _ | refine blk_drew ?_ | refine blk_alloc ?_ _)); refine blk_put (cs := #[.int .i64 t275, .int .i64 0, .slice none 0 0]) ?_ 1 _ rfl; (with_reducible repeat (first | refine blk_drewN ?_ _ | refine blk_drew ?_ | refine blk_alloc ?_ _)); refine blk_put (cs := #[.int .i64 0, .int .i64 0, .slice none 0 0]) ?_ 0 _ rfl; exact zK) hb); have n3_ := Aside0.mk (below_step zB hb); clear HO279; clear BK273; clear BK280; clear HB; have HO279 := n0_; have BK273 := n1_; have BK280 := n2_; have HB := n3_; clear n0_ n1_ n2_ n3_; (try clear hb); (try clear hb2); (try clear hk); (try clear hi); have hcz29_0 : w28.cell? ⟨gb280, 0, none⟩ = some (.int .i64 t275) := zE BK280; have hcz29_1 : w28.cell? ⟨gb280, 1, none⟩ = some (.int .i64 t276) := zE BK280; have hcz29_2 : w28.cell? ⟨gb280, 2, none⟩ = some (.slice Ao27 t277.length co27) := zE BK280; have hfz29_0 := blk_frozen BK280.out 0; have hfz29_1 := blk_frozen BK280.out 1; have hfz29_2 := blk_frozen BK280.out 2) | ((with_reducible refine gate_callee (f := 78) rfl ?_); refine goesL_ (some 31) rfl rfl Try.func78 (by kernel_rfl) rfl #[.agg #[.int .i64 t275, .int .i64 t276, .slice Ao27 t277.length co27], .int .i64 t281] rfl zM ?_; (with_reducible refine (spec_l01Part.calls k t275 t276 _ _ t277 t281 t287 t288 t289 _ ?side1 ?side2 A21.out).mono ?_); (case side1 => repeat (first | exact (Kd.R_reads' HO279.out).2.2 | (with_reducible refine Kd.C_alloc ?_ _) | (with_reducible refine Kd.C_drewN ?_ _) | (with_reducible refine Kd.C_drew ?_))); (case side2 => exact (Kd.R_reads' HO279.out).2.1); rintro e w30 ⟨v290, rfl, ho0, hb⟩; refine ⟨_, rfl, ?_⟩; have n0_ := Aside0.mk (Kd.R_elder' zR (Kd.R_base ho0) hb); have n1_ := Aside0.mk (Kd.R_lower (Kd.R_new' ho0 (Kd.R_lt (by (with_reducible repeat (first | apply Kd.R_alloc | apply Kd.R_drewN | apply Kd.R_drew)); exact HO279.out))) (below_size zB)); have n2_ := Aside0.mk (blk_below (g := gb273) (o := .cells #[.int .i64 0, .int .i64 0, .slice none 0 0] 32 (0, 0)) zK hb); have n3_ := Aside0.mk (blk_below (g := gb280) (o := .cells #[.int .i64 t275, .int .i64 t276, .slice Ao27 t277.length co27] 32 (0, 0)) zK hb); have n4_ := Aside0.mk (below_step zB hb); clear HO279; clear BK273; clear BK280; clear HB; have HO279 := n0_; have HO291 := n1_; have BK273 := n2_; have BK280 := n3_; have HB := n4_; clear n0_ n1_ n2_ n3_ n4_; (try clear hb); (try clear hb2); (try clear hk); (try clear hi); (try clear ho0); have hcz31_0 : w30.cell? ⟨gb273, 0, none⟩ = some (.int .i64 0) := zE BK273; have hcz31_1 : w30.cell? ⟨gb273, 1, none⟩ = some (.int .i64 0) := zE BK273; have hcz31_2 : w30.cell? ⟨gb273, 2, none⟩ = some (.slice none 0 0) := zE BK273; have hfz31_0 := blk_frozen BK273.out 0; have hfz31_1 := blk_frozen BK273.out 1; have hfz31_2 := blk_frozen BK273.out 2; obtain ⟨Ao32, co32, eo32⟩ := Kd.R_slice HO291.out; subst eo32))
      refine bodyPost_ret (results_ct rfl _ _ gb273 32 #[.int .i64 t287, .int .i64 t288, .slice Ao32 t289.length co32] (0, 0) _ rfl (by (with_reducible repeat (first | refine blk_drewN ?_ _ | refine blk_drew ?_ | refine blk_alloc ?_ _)); refine blk_put (cs := #[.int .i64 t287, .int .i64 t288, .slice none 0 0]) ?_ 2 _ rfl; (with_reducible repeat (first | refine blk_drewN ?_ _ | refine blk_drew ?_ | refine blk_alloc ?_ _)); refine blk_put (cs := #[.int .i64 t287, .int .i64 0, .slice none 0 0]) ?_ 1 _ rfl; (with_reducible repeat (first | refine blk_drewN ?_ _ | refine blk_drew ?_ | refine blk_alloc ?_ _)); refine blk_put (cs := #[.int .i64 0, .int .i64 0, .slice none 0 0]) ?_ 0 _ rfl; exact zK) Try.underlying32 rfl (by kernel_rfl)) rfl ?_
      exact ⟨_, by first | rfl | (simp [errW_none, errW_some] <;> rfl) | (simp [*, errW_none, errW_some] <;> rfl), by (with_reducible repeat (first | apply Kd.R_alloc | apply Kd.R_drewN | apply Kd.R_drew)); exact Kd.R_mono (Kd.R_far (p := ⟨gb273, 2, none⟩) (Kd.R_far (p := ⟨gb273, 1, none⟩) (Kd.R_far (p := ⟨gb273, 0, none⟩) (Kd.R_types HO291.out BK273.out (by decide)) (fun _ hk => hk.2) (.int .i64 t287)) (fun _ hk => hk.2) (.int .i64 t288)) (fun _ hk => hk.2) (.slice Ao32 t289.length co32)) (fun _ hk => trivial), zB⟩
  · rw [if_neg c5] at H
    have c5b0 : (t274 == 0) = false := beq_eq_false_iff_ne.mpr c5
    have c5b1 : (t274 != 0) = true := bne_iff_ne.mpr c5
    simp only [Option.some.injEq, Prod.mk.injEq] at H
    obtain ⟨rfl, rfl, rfl, rfl⟩ := H
    go_enter Try.func36, Try.ntmps36
    go_wp2_with (first | ((with_reducible refine gate_dst (N := 6) rfl ?_); refine zX 6 (#[.int .i64 0, .int .i64 0, .slice none 0 0]) 32 ?_; intro gb273 hg w33 hbox hb; have BK273 := Aside0.mk (hbox); have GW273 := Aside0.mk (zG : w.heap.size ≤ gb273); have GE273 := Aside0.mk (zG : w.heap.size ≤ gb273); replace HB := Aside0.mk (below_step zB hb); clear hb hbox hg) | ((with_reducible refine gate_callee (f := 68) rfl ?_); refine goesL_ (some 14) rfl rfl Try.func68 (by kernel_rfl) rfl #[.int .i64 a0, .int .i64 a1, .slice A2 l2.length c2] rfl zM ?_; (with_reducible refine (spec_l09Code.calls k a0 a1 _ _ l2 t274 _ ?side1 ?side2 A4.out).mono ?_); (case side1 => repeat (first | exact (Kd.C_below HR2.out HB.out) | (with_reducible refine Kd.C_alloc ?_ _) | (with_reducible refine Kd.C_drewN ?_ _) | (with_reducible refine Kd.C_drew ?_))); (case side2 => exact HC2.out); rintro e w' ⟨rfl, ⟨nd, rfl⟩⟩; refine ⟨_, rfl, ?_⟩; (try (rw [drewN_self w33]; generalize hq_ : World.drewN w33 _ = w33; replace BK273 : Aside0 (w33.heap[gb273]? = some (.cells #[.int .i64 0, .int .i64 0, .slice none 0 0] 32 (0, 0))) := ⟨by rw [← hq_]; exact zK⟩; replace HB : Aside0 (Below w.heap.size w w33) := ⟨by rw [← hq_]; exact zB⟩; clear hq_)); obtain ⟨hcz34_0, hcz34_1, hcz34_2, hfz34_0, hfz34_1, hfz34_2⟩ := zC3 BK273))
    refine bodyPost_ret (results_ct rfl _ _ gb273 32 #[.int .i64 0, .int .i64 0, .slice none 0 0] (0, 0) _ rfl (by (with_reducible repeat (first | refine blk_drewN ?_ _ | refine blk_drew ?_ | refine blk_alloc ?_ _)); refine blk_put (cs := #[.int .i64 0, .int .i64 0, .slice none 0 0]) ?_ 2 _ rfl; (with_reducible repeat (first | refine blk_drewN ?_ _ | refine blk_drew ?_ | refine blk_alloc ?_ _)); refine blk_put (cs := #[.int .i64 0, .int .i64 0, .slice none 0 0]) ?_ 1 _ rfl; (with_reducible repeat (first | refine blk_drewN ?_ _ | refine blk_drew ?_ | refine blk_alloc ?_ _)); refine blk_put (cs := #[.int .i64 0, .int .i64 0, .slice none 0 0]) ?_ 0 _ rfl; exact zK) Try.underlying32 rfl (by kernel_rfl)) rfl ?_
    exact ⟨_, by first | rfl | (simp [errW_none, errW_some] <;> rfl) | (simp [*, errW_none, errW_some] <;> rfl), by first | exact Kd.R_nil _ _ _ _ _ | exact Kd.N_nil _ _ _ _ _ | exact Kd.V_nil _ _ _ _ _ | exact Kd.Q_nil _ _ _ _ _ | exact Kd.S_nil _ _ _ _ _, zB⟩


end Go.Proofs.Ytcklefgkbddlhaa.P
