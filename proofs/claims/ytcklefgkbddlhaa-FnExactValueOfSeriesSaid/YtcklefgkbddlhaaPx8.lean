/- What a call of each Go function named below comes to is what the plain function beside it says. -/
import Derived.Test.YtcklefgkbddlhaaPx0
import Derived.Test.YtcklefgkbddlhaaPx4
import Derived.Test.YtcklefgkbddlhaaPx6
import Derived.Test.YtcklefgkbddlhaaPx7
import Derived.Test.YtcklefgkbddlhaaHandMtx
namespace Go.Proofs.Ytcklefgkbddlhaa.P
open Go.RowKit Go.Proofs.YtcklefgkbddlhaaW.PrintWords Go.Proofs.YtcklefgkbddlhaaW.PrintLast Go.Proofs.YtcklefgkbddlhaaW.PrintMore
attribute [local go_sem] max2_int min2_int max_two min_two max_three min_three max_four min_four
set_option linter.unusedVariables false
set_option linter.unusedSimpArgs false
/-! ### spec_l08Value: function 54, by hand -/
mutual
def spec_l08Value.l0 : Nat → List (List (List Int)) → Int → List (List (S27)) → Int → Int → Int → List (S89) → Option ((List (List (S27))) × Bool)
  | 0, _, _, _, _, _, _, _ => none
  | k + 1, x1, x6, x7, x8, x180000, x180001, x180002 => if x8 < x6 then (spec_l08Value.l1 k x1 x6 x7 x8 (([] : List (S27))) 0 x180000 x180001 x180002) else (spec_l08Value.l2 k x1 x6 x7 0 x180000 x180001 x180002)
def spec_l08Value.l1 : Nat → List (List (List Int)) → Int → List (List (S27)) → Int → List (S27) → Int → Int → Int → List (S89) → Option ((List (List (S27))) × Bool)
  | 0, _, _, _, _, _, _, _, _, _ => none
  | k + 1, x1, x6, x7, x8, x9, x10, x180000, x180001, x180002 => if x10 < x6 then ((spec_l02One.f 0).bind fun bt187 => (if x9.length < 8796093022208 then (spec_l08Value.l1 k x1 x6 x7 x8 (x9 ++ [(⟨bt187.1, bt187.2⟩ : S27)]) (wrap64 (x10 + 1)) x180000 x180001 x180002) else (none))) else (if x7.length < 5864062014805 then (spec_l08Value.l0 k x1 x6 (x7 ++ [x9]) (wrap64 (x8 + 1)) x180000 x180001 x180002) else (none))
def spec_l08Value.l2 : Nat → List (List (List Int)) → Int → List (List (S27)) → Int → Int → Int → List (S89) → Option ((List (List (S27))) × Bool)
  | 0, _, _, _, _, _, _, _ => none
  | k + 1, x1, x6, x7, x11, x180000, x180001, x180002 => if x11 < (x180002.length : Int) then (if 0 ≤ x11 then ((spec_l08Product.f k x1 ((rd_T89 x180002 x11).f0)).bind fun bt196 => (if bt196.2 = true then (spec_l08Value.l3 k x1 x6 x7 x11 bt196.1 0 x180000 x180001 x180002) else (some (([] : List (List (S27))), false)))) else (none)) else (some (x7, true))
def spec_l08Value.l3 : Nat → List (List (List Int)) → Int → List (List (S27)) → Int → List (List Int) → Int → Int → Int → List (S89) → Option ((List (List (S27))) × Bool)
  | 0, _, _, _, _, _, _, _, _, _ => none
  | k + 1, x1, x6, x7, x11, x12, x14, x180000, x180001, x180002 => if x14 < x6 then (if 0 ≤ x14 then (if x14 < (x7.length : Int) then (spec_l08Value.l4 k x1 x6 x7 x11 x12 x14 0 x180000 x180001 x180002) else (none)) else (none)) else (spec_l08Value.l2 k x1 x6 x7 (wrap64 (x11 + 1)) x180000 x180001 x180002)
def spec_l08Value.l4 : Nat → List (List (List Int)) → Int → List (List (S27)) → Int → List (List Int) → Int → Int → Int → Int → List (S89) → Option ((List (List (S27))) × Bool)
  | 0, _, _, _, _, _, _, _, _, _, _ => none
  | k + 1, x1, x6, x7, x11, x12, x14, x15, x180000, x180001, x180002 => if x15 < x6 then (if 0 ≤ x11 then (if x11 < (x180002.length : Int) then (if 0 ≤ x14 then (if x14 < (x12.length : Int) then (if 0 ≤ x15 then (if x15 < ((rd_L6 x12 x14).length : Int) then ((spec_l02One.f (rd (rd_L6 x12 x14) x15)).bind fun bt203 => ((spec_l01TimesFrac.f k ((rd_T89 x180002 x11).f1.f0) ((rd_T89 x180002 x11).f1.f1) bt203.1 bt203.2).bind fun bt205 => (if x14 < (x7.length : Int) then (if x15 < ((rd_L8 x7 x14).length : Int) then ((spec_l01Plus.f k ((rd_T27 (rd_L8 x7 x14) x15).f0) ((rd_T27 (rd_L8 x7 x14) x15).f1) bt205.1 bt205.2.1).bind fun bt211 => (if bt205.2.2 = true then (if bt211.2.2 = true then (spec_l08Value.l4 k x1 x6 (x7.set (x14 : Int).toNat ((rd_L8 x7 x14).set (x15 : Int).toNat (⟨bt211.1, bt211.2.1⟩ : S27))) x11 x12 x14 (wrap64 (x15 + 1)) x180000 x180001 x180002) else (some (([] : List (List (S27))), false))) else (some (([] : List (List (S27))), false)))) else (none)) else (none)))) else (none)) else (none)) else (none)) else (none)) else (none)) else (none)) else (spec_l08Value.l3 k x1 x6 x7 x11 x12 (wrap64 (x14 + 1)) x180000 x180001 x180002)
end
def spec_l08Value.f (k : Nat) (a0_0 : Int) (a0_1 : Int) (l0_2 : List (S89)) (l1 : List (List (List Int))) : Option ((List (List (S27))) × Bool) := if 0 < (l1.length : Int) then (spec_l08Value.l0 k l1 ((rd_L7 l1 0).length : Int) (([] : List (List (S27)))) 0 a0_0 a0_1 l0_2) else (none)
theorem spec_l08Value.mono_l : ∀ k, (∀ y0 y1 y2 y3 y4 y5 y6, LeO (spec_l08Value.l0 k y0 y1 y2 y3 y4 y5 y6) (spec_l08Value.l0 (k + 1) y0 y1 y2 y3 y4 y5 y6)) ∧ (∀ y0 y1 y2 y3 y4 y5 y6 y7 y8, LeO (spec_l08Value.l1 k y0 y1 y2 y3 y4 y5 y6 y7 y8) (spec_l08Value.l1 (k + 1) y0 y1 y2 y3 y4 y5 y6 y7 y8)) ∧ (∀ y0 y1 y2 y3 y4 y5 y6, LeO (spec_l08Value.l2 k y0 y1 y2 y3 y4 y5 y6) (spec_l08Value.l2 (k + 1) y0 y1 y2 y3 y4 y5 y6)) ∧ (∀ y0 y1 y2 y3 y4 y5 y6 y7 y8, LeO (spec_l08Value.l3 k y0 y1 y2 y3 y4 y5 y6 y7 y8) (spec_l08Value.l3 (k + 1) y0 y1 y2 y3 y4 y5 y6 y7 y8)) ∧ (∀ y0 y1 y2 y3 y4 y5 y6 y7 y8 y9, LeO (spec_l08Value.l4 k y0 y1 y2 y3 y4 y5 y6 y7 y8 y9) (spec_l08Value.l4 (k + 1) y0 y1 y2 y3 y4 y5 y6 y7 y8 y9))
  | 0 => ⟨fun _ _ _ _ _ _ _ r h => by simp [spec_l08Value.l0] at h, fun _ _ _ _ _ _ _ _ _ r h => by simp [spec_l08Value.l1] at h, fun _ _ _ _ _ _ _ r h => by simp [spec_l08Value.l2] at h, fun _ _ _ _ _ _ _ _ _ r h => by simp [spec_l08Value.l3] at h, fun _ _ _ _ _ _ _ _ _ _ r h => by simp [spec_l08Value.l4] at h⟩
  | k + 1 => by
    obtain ⟨ih0, ih1, ih2, ih3, ih4⟩ := spec_l08Value.mono_l k
    refine ⟨?_, ?_, ?_, ?_, ?_⟩
    · intro y0 y1 y2 y3 y4 y5 y6
      unfold spec_l08Value.l0
      repeat' first
      | (with_reducible exact ih0 _ _ _ _ _ _ _)
      | (with_reducible exact ih1 _ _ _ _ _ _ _ _ _)
      | (with_reducible exact ih2 _ _ _ _ _ _ _)
      | (with_reducible exact ih3 _ _ _ _ _ _ _ _ _)
      | (with_reducible exact ih4 _ _ _ _ _ _ _ _ _ _)
      | (with_reducible exact spec_l01Plus.mono _ _ _ _ _)
      | (with_reducible exact spec_l01TimesFrac.mono _ _ _ _ _)
      | (with_reducible exact spec_l08Product.mono _ _ _)
      | (with_reducible exact LeO.refl _)
      | (with_reducible exact LeO.none _)
      | (with_reducible refine LeO.ite ?_ ?_)
      | (with_reducible refine LeO.bind ?_ (fun _ => ?_))
    · intro y0 y1 y2 y3 y4 y5 y6 y7 y8
      unfold spec_l08Value.l1
      repeat' first
      | (with_reducible exact ih0 _ _ _ _ _ _ _)
      | (with_reducible exact ih1 _ _ _ _ _ _ _ _ _)
      | (with_reducible exact ih2 _ _ _ _ _ _ _)
      | (with_reducible exact ih3 _ _ _ _ _ _ _ _ _)
      | (with_reducible exact ih4 _ _ _ _ _ _ _ _ _ _)
      | (with_reducible exact spec_l01Plus.mono _ _ _ _ _)
      | (with_reducible exact spec_l01TimesFrac.mono _ _ _ _ _)
      | (with_reducible exact spec_l08Product.mono _ _ _)
      | (with_reducible exact LeO.refl _)
      | (with_reducible exact LeO.none _)
      | (with_reducible refine LeO.ite ?_ ?_)
      | (with_reducible refine LeO.bind ?_ (fun _ => ?_))
    · intro y0 y1 y2 y3 y4 y5 y6
      unfold spec_l08Value.l2
      repeat' first
      | (with_reducible exact ih0 _ _ _ _ _ _ _)
      | (with_reducible exact ih1 _ _ _ _ _ _ _ _ _)
      | (with_reducible exact ih2 _ _ _ _ _ _ _)
      | (with_reducible exact ih3 _ _ _ _ _ _ _ _ _)
      | (with_reducible exact ih4 _ _ _ _ _ _ _ _ _ _)
      | (with_reducible exact spec_l01Plus.mono _ _ _ _ _)
      | (with_reducible exact spec_l01TimesFrac.mono _ _ _ _ _)
      | (with_reducible exact spec_l08Product.mono _ _ _)
      | (with_reducible exact LeO.refl _)
      | (with_reducible exact LeO.none _)
      | (with_reducible refine LeO.ite ?_ ?_)
      | (with_reducible refine LeO.bind ?_ (fun _ => ?_))
    · intro y0 y1 y2 y3 y4 y5 y6 y7 y8
      unfold spec_l08Value.l3
      repeat' first
      | (with_reducible exact ih0 _ _ _ _ _ _ _)
      | (with_reducible exact ih1 _ _ _ _ _ _ _ _ _)
      | (with_reducible exact ih2 _ _ _ _ _ _ _)
      | (with_reducible exact ih3 _ _ _ _ _ _ _ _ _)
      | (with_reducible exact ih4 _ _ _ _ _ _ _ _ _ _)
      | (with_reducible exact spec_l01Plus.mono _ _ _ _ _)
      | (with_reducible exact spec_l01TimesFrac.mono _ _ _ _ _)
      | (with_reducible exact spec_l08Product.mono _ _ _)
      | (with_reducible exact LeO.refl _)
      | (with_reducible exact LeO.none _)
      | (with_reducible refine LeO.ite ?_ ?_)
      | (with_reducible refine LeO.bind ?_ (fun _ => ?_))
    · intro y0 y1 y2 y3 y4 y5 y6 y7 y8 y9
      unfold spec_l08Value.l4
      repeat' first
      | (with_reducible exact ih0 _ _ _ _ _ _ _)
      | (with_reducible exact ih1 _ _ _ _ _ _ _ _ _)
      | (with_reducible exact ih2 _ _ _ _ _ _ _)
      | (with_reducible exact ih3 _ _ _ _ _ _ _ _ _)
      | (with_reducible exact ih4 _ _ _ _ _ _ _ _ _ _)
      | (with_reducible exact spec_l01Plus.mono _ _ _ _ _)
      | (with_reducible exact spec_l01TimesFrac.mono _ _ _ _ _)
      | (with_reducible exact spec_l08Product.mono _ _ _)
      | (with_reducible exact LeO.refl _)
      | (with_reducible exact LeO.none _)
      | (with_reducible refine LeO.ite ?_ ?_)
      | (with_reducible refine LeO.bind ?_ (fun _ => ?_))
theorem spec_l08Value.mono : ∀ a0 a1 a2 a3 k, LeO (spec_l08Value.f k a0 a1 a2 a3) (spec_l08Value.f (k + 1) a0 a1 a2 a3) := by
  intro a0 a1 a2 a3 k
  obtain ⟨ih0, ih1, ih2, ih3, ih4⟩ := spec_l08Value.mono_l k
  unfold spec_l08Value.f
  repeat' first
      | (with_reducible exact ih0 _ _ _ _ _ _ _)
      | (with_reducible exact ih1 _ _ _ _ _ _ _ _ _)
      | (with_reducible exact ih2 _ _ _ _ _ _ _)
      | (with_reducible exact ih3 _ _ _ _ _ _ _ _ _)
      | (with_reducible exact ih4 _ _ _ _ _ _ _ _ _ _)
      | (with_reducible exact spec_l01Plus.mono _ _ _ _ _)
      | (with_reducible exact spec_l01TimesFrac.mono _ _ _ _ _)
      | (with_reducible exact spec_l08Product.mono _ _ _)
      | (with_reducible exact LeO.refl _)
      | (with_reducible exact LeO.none _)
      | (with_reducible refine LeO.ite ?_ ?_)
      | (with_reducible refine LeO.bind ?_ (fun _ => ?_))
set_option maxHeartbeats 8000000 in
set_option maxRecDepth 100000 in
theorem spec_l08Value.calls (k : Nat) (a0_0 : Int) (a0_1 : Int) (A0_2 : Option Addr) (c0_2 : Nat) (l0_2 : List (S89)) (A1 : Option Addr) (c1 : Nat) (l1 : List (List (List Int))) (r1 : List (List (S27))) (r2 : Bool) (w : World) (hr0_2 : Kd.C k89 w A0_2 l0_2.length l0_2) (hc0_2 : l0_2.length ≤ c0_2) (hr1 : Kd.C (Kd.slice 48 (Kd.slice 2 (Kd.int .i64))) w A1 l1.length l1) (hc1 : l1.length ≤ c1) (h : spec_l08Value.f k a0_0 a0_1 l0_2 l1 = some (r1, r2)) :
    Calls Try.prog 54 #[.agg #[.int .i64 a0_0, .int .i64 a0_1, .slice A0_2 l0_2.length c0_2], .slice A1 l1.length c1] w fun e w' => ∃ v0_ : Value, e = .returned (.tuple #[v0_, .bool r2]) ∧ Kd.S (Kd.slice 27 k27) 77 w' w.heap.size (fun _ => True) v0_ r1 ∧ Below w.heap.size w w' := by
  have hu32 := Try.underlying32
  have hu27 := Try.underlying27
  have HR0_2 := Aside0.mk hr0_2
  have HC0_2 := Aside0.mk hc0_2
  clear hr0_2 hc0_2
  have HR1 := Aside0.mk hr1
  have HC1 := Aside0.mk hc1
  clear hr1 hc1
  have HB := Aside0.mk (Below.refl w.heap.size w)
  have H : (if 0 < (l1.length : Int) then (spec_l08Value.l0 k l1 ((rd_L7 l1 0).length : Int) (([] : List (List (S27)))) 0 a0_0 a0_1 l0_2) else (none)) = some (r1, r2) := h
  clear h
  by_cases c3 : 0 < (l1.length : Int)
  · rw [if_pos c3] at H
    have c3b0 : decide (0 < (l1.length : Int)) = true := decide_eq_true c3
    have c3b1 : decide (0 < l1.length) = true := decide_eq_true (by omega)
    clear c3
    obtain ⟨y181, hy181⟩ : ∃ y_ : List (List (S27)), y_ = (([] : List (List (S27)))) := ⟨_, rfl⟩
    replace H : (spec_l08Value.l0 k l1 ((rd_L7 l1 0).length : Int) y181 0 a0_0 a0_1 l0_2) = some (r1, r2) := by first | (rw [hy181]; with_reducible exact H) | (have H2_ := (Option.bind_some _ _).symm.trans H; rw [hy181]; with_reducible exact H2_) | (have H2_ := (Option.bind_some _ _).symm.trans H; with_reducible exact H2_) | with_reducible exact H | (rw [hy181]; exact H) | exact H
    have Ny181 := Aside0.mk hy181
    clear hy181
    have H' := Aside0.mk H
    clear H
    go_enter Try.func54, Try.ntmps54
    go_wp2_with (first | ((with_reducible refine gate_dst (N := 2) rfl ?_); refine box_event ?hg (N := 2) ?hd (cs := #[.int .i64 a0_0, .int .i64 a0_1, .slice A0_2 l0_2.length c0_2]) (t := 32) ?hr ?_; (case hd => rfl); (case hg => rfl); (case hr => first | (go_simp; done) | (go_simp; rfl)); intro gb179 hg w4 hbox hb; have n0_ := Aside0.mk (below_step zB hb); have n1_ := Aside0.mk (hbox); have n2_ := Aside0.mk (zG : w.heap.size ≤ gb179); have n3_ := Aside0.mk (zG : w.heap.size ≤ gb179); clear HB; have HB := n0_; have BK179 := n1_; have GW179 := n2_; have GE179 := n3_; clear n0_ n1_ n2_ n3_; clear hb hbox hg; have p180 : 0 ≤ (0 : Int) := (by omega); have q180 : 0 < (l1.length : Int) := zD; obtain ⟨ad180, A180_0, c180_0, e180, hx180_0, hl180_0, hi180_0⟩ := at_L7 HR1.out 0 p180 q180; cases e180; have qi180 : (0 < l1.length) = True := eq_true (by omega); (try rw [show ((0 : Int)).toNat = 0 from rfl] at hx180_0); (try rw [Addr.add_zero'] at hx180_0); replace hx180_0 := zH HB hx180_0; have HR180_0 := Aside0.mk hi180_0; have HC180_0 := Aside0.mk hl180_0; clear hi180_0 hl180_0; replace p180 := eq_true p180; replace q180 := eq_true q180) | ((with_reducible refine gate_dst (N := 25) rfl ?_); refine Kd.S_lit (Kd.slice 27 k27) _ 77 ?hg (N := 25) ?hd (xs := ([] : List (List (S27)))) (inner := []) (ok := fun _ => True) (okp := fun _ => True) ?hr ?hp (fun _ hk => hk) trivial (Below.refl _ _) (Nat.le_refl _) (by simp) ?_; (case hd => rfl); (case hg => rfl); (case hr => first | (go_simp; done) | (go_simp; rfl)); (case hp => exact (Reps.none _ _)); intro v182 w5 ho6 hb hg_ hnew_; clear hg_ hnew_; (first | rw [← Ny181.out] at ho6 | (simp only [Int.reduceToNat] at ho6; rw [← Ny181.out] at ho6)); have n0_ := Aside0.mk (Kd.S_lower ho6 (below_size zB)); have n1_ := Aside0.mk (blk_below (g := gb179) (o := .cells #[.int .i64 a0_0, .int .i64 a0_1, .slice A0_2 l0_2.length c0_2] 32 (0, 0)) zK hb); have n2_ := Aside0.mk (below_step zB hb); clear BK179; clear HB; have HO183 := n0_; have BK179 := n1_; have HB := n2_; clear n0_ n1_ n2_; clear hb ho6))
    go_loopg [7, 8] k (fun kq v7 v8 w' => ∃ (x7_1 : List (List (S27))) (x8_1 : Int), v8 = .int .i64 x8_1 ∧ Aside0 (spec_l08Value.l0 kq l1 ((rd_L7 l1 0).length : Int) x7_1 x8_1 a0_0 a0_1 l0_2 = some (r1, r2)) ∧ Aside0 (kq ≤ k) ∧ Aside0 (Kd.S (Kd.slice 27 k27) 77 w' w.heap.size (fun _ => True) v7 x7_1) ∧ Aside0 (w'.heap[gb179]? = some (.cells #[.int .i64 a0_0, .int .i64 a0_1, (.slice A0_2 l0_2.length c0_2)] 32 (0, 0))) ∧ Aside0 (Below w.heap.size w w'))
    case atStart => exact ⟨(y181), (0), (by first | rfl | (simp; done) | (simp [*]; done)), H', ⟨Nat.le_refl _⟩, ⟨zS⟩, ⟨zK⟩, ⟨zB⟩⟩
    case round =>
      clear H'
      obtain ⟨x7_1, x8_1, rfl, HA, HK1, HO_7, BK179, HB⟩ := hrel
      cases gk with
      | zero => exact absurd HA.out (by simp [spec_l08Value.l0])
      | succ k1 =>
        have H := HA.out
        clear HA
        simp only [spec_l08Value.l0] at H
        by_cases c7 : x8_1 < ((rd_L7 l1 0).length : Int)
        · rw [if_pos c7] at H
          have c7b0 : decide (x8_1 < ((rd_L7 l1 0).length : Int)) = true := decide_eq_true c7
          clear c7
          obtain ⟨y184, hy184⟩ : ∃ y_ : List (S27), y_ = (([] : List (S27))) := ⟨_, rfl⟩
          replace H : (spec_l08Value.l1 k1 l1 ((rd_L7 l1 0).length : Int) x7_1 x8_1 y184 0 a0_0 a0_1 l0_2) = some (r1, r2) := by first | (rw [hy184]; with_reducible exact H) | (have H2_ := (Option.bind_some _ _).symm.trans H; rw [hy184]; with_reducible exact H2_) | (have H2_ := (Option.bind_some _ _).symm.trans H; with_reducible exact H2_) | with_reducible exact H | (rw [hy184]; exact H) | exact H
          have Ny184 := Aside0.mk hy184
          clear hy184
          have H' := Aside0.mk H
          clear H
          go_wp2_with (first | ((with_reducible refine gate_dst (N := 31) rfl ?_); refine Kd.R_lit k27 _ 27 ?hg (N := 31) ?hd (xs := ([] : List (S27))) (inner := []) (ok := fun _ => True) (okp := fun _ => True) ?hr ?hp (fun _ hk => hk) trivial (Below.refl _ _) (Nat.le_refl _) (by simp) ?_; (case hd => rfl); (case hg => rfl); (case hr => first | (go_simp; done) | (go_simp; rfl)); (case hp => exact (Reps.none _ _)); intro v185 w8 ho9 hb hg_ hnew_; clear hg_ hnew_; (first | rw [← Ny184.out] at ho9 | (simp only [Int.reduceToNat] at ho9; rw [← Ny184.out] at ho9)); have n0_ := Aside0.mk (Kd.S_elder' zS (Kd.R_base ho9) hb); have n1_ := Aside0.mk (Kd.R_lower ho9 (below_size zB)); have n2_ := Aside0.mk (blk_below (g := gb179) (o := .cells #[.int .i64 a0_0, .int .i64 a0_1, .slice A0_2 l0_2.length c0_2] 32 (0, 0)) zK hb); have n3_ := Aside0.mk (below_step zB hb); clear HO_7; clear BK179; clear HB; have HO_7 := n0_; have HO186 := n1_; have BK179 := n2_; have HB := n3_; clear n0_ n1_ n2_ n3_; clear hb ho9))
          go_loopg [9, 10] k1 (fun kq v9 v10 w' => ∃ (x9_2 : List (S27)) (x10_2 : Int), v10 = .int .i64 x10_2 ∧ Aside0 (spec_l08Value.l1 kq l1 ((rd_L7 l1 0).length : Int) x7_1 x8_1 x9_2 x10_2 a0_0 a0_1 l0_2 = some (r1, r2)) ∧ Aside0 (kq ≤ k1) ∧ Aside0 (Kd.S (Kd.slice 27 k27) 77 w' w.heap.size (fun k_ => some k_ ≠ (v9 : Value).ownBlock) u7 x7_1) ∧ Aside0 (Kd.R k27 27 w' w.heap.size (fun _ => True) v9 x9_2) ∧ Aside0 (w'.heap[gb179]? = some (.cells #[.int .i64 a0_0, .int .i64 a0_1, (.slice A0_2 l0_2.length c0_2)] 32 (0, 0))) ∧ Aside0 (Below w.heap.size w w'))
          case atStart => exact ⟨(y184), (0), (by first | rfl | (simp; done) | (simp [*]; done)), H', ⟨Nat.le_refl _⟩, ⟨by (with_reducible repeat (first | apply Kd.S_alloc | apply Kd.S_drewN | apply Kd.S_drew)); exact Kd.S_mono HO_7.out (fun _ hk => hk.2)⟩, ⟨zR⟩, ⟨zK⟩, ⟨zB⟩⟩
          case round =>
            clear H'
            obtain ⟨x9_2, x10_2, rfl, HA, HK2, HO_7, HO_9, BK179, HB⟩ := hrel
            cases gk with
            | zero => exact absurd HA.out (by simp [spec_l08Value.l1])
            | succ k2 =>
             have H := HA.out
             clear HA
             simp only [spec_l08Value.l1] at H
             by_cases c10 : x10_2 < ((rd_L7 l1 0).length : Int)
             ·rw [if_pos c10] at H
              have c10b0 : decide (x10_2 < ((rd_L7 l1 0).length : Int)) = true := decide_eq_true c10
              clear c10
              replace H := Option.bind_eq_some_iff.mp H
              obtain ⟨⟨t187, t188⟩, A110, H⟩ := H
              replace H : (if x9_2.length < 8796093022208 then (spec_l08Value.l1 k2 l1 ((rd_L7 l1 0).length : Int) x7_1 x8_1 (x9_2 ++ [(⟨t187, t188⟩ : S27)]) (wrap64 (x10_2 + 1)) a0_0 a0_1 l0_2) else (none)) = some (r1, r2) := H
              have A11 := Aside0.mk A110
              clear A110
              by_cases c12 : x9_2.length < 8796093022208
              ·rw [if_pos c12] at H
               have LMc12 := Aside0.mk c12
               clear c12
               obtain ⟨y189, hy189⟩ : ∃ y_ : List (S27), y_ = (x9_2 ++ [(⟨t187, t188⟩ : S27)]) := ⟨_, rfl⟩
               replace H : (spec_l08Value.l1 k2 l1 ((rd_L7 l1 0).length : Int) x7_1 x8_1 y189 (wrap64 (x10_2 + 1)) a0_0 a0_1 l0_2) = some (r1, r2) := by first | (rw [hy189]; with_reducible exact H) | (have H2_ := (Option.bind_some _ _).symm.trans H; rw [hy189]; with_reducible exact H2_) | (have H2_ := (Option.bind_some _ _).symm.trans H; with_reducible exact H2_) | with_reducible exact H | (rw [hy189]; exact H) | exact H
               have Ny189 := Aside0.mk hy189
               clear hy189
               have H' := Aside0.mk H
               clear H
               go_wp2_with (first | ((with_reducible refine gate_callee (f := 106) rfl ?_); refine goesL_ (some 38) rfl rfl Try.func106 (by kernel_rfl) rfl #[.int .i64 0] rfl zM ?_; (with_reducible refine (spec_l02One.calls 0 t187 t188 _ A11.out).mono ?_); rintro e w13 ⟨rfl, hb⟩; refine ⟨_, rfl, ?_⟩; have n0_ := Aside0.mk (Kd.S_below zS hb); have n1_ := Aside0.mk (Kd.R_below zR hb); have n2_ := Aside0.mk (blk_below (g := gb179) (o := .cells #[.int .i64 a0_0, .int .i64 a0_1, .slice A0_2 l0_2.length c0_2] 32 (0, 0)) zK hb); have n3_ := Aside0.mk (below_step zB hb); clear HO_7; clear HO_9; clear BK179; clear HB; have HO_7 := n0_; have HO_9 := n1_; have BK179 := n2_; have HB := n3_; clear n0_ n1_ n2_ n3_; (try clear hb); (try clear hb2); (try clear hk); (try clear hi)) | ((with_reducible refine gate_builtin (b := .append) (xs := #[.tmp 37, .tmp 39]) rfl ?_); at_builtin; refine Kd.R_append k27 (w0 := w) w.heap.size rfl (.tmp 37) (.tmp 39) 77 27 (.agg #[(.int .i64 0), (.int .i64 0)]) 16 rfl Try.underlying77 info27 rfl (by decide) (by omega) u9 x9_2 (⟨t187, t188⟩ : S27) [.int .i64 t187, .int .i64 t188] (fun _ => True) (fun _ => False) rfl rfl ?aP (fun _ hk => hk.elim) ?aF ?aO ?aB ?aS ?aL ?_; (case aP => exact k27_mkM _ _ _ (⟨t187, t188⟩ : S27)); (case aB => exact zB); (case aF => exact (fun _ _ => trivial)); (case aO => exact zR); (case aS => exact (below_size zB)); (case aL => have := LMc12.out; omega); intro v190 w14 ho hb hg hat; rw [← Ny189.out] at ho; have n0_ := Aside0.mk (Kd.S_after (ok := (fun _ => True)) (by (with_reducible repeat (first | apply Kd.S_alloc | apply Kd.S_drewN | apply Kd.S_drew)); exact Kd.S_mono HO_7.out (fun _ hk => ⟨trivial, hk⟩)) hg hat); have n1_ := Aside0.mk (blk_grown (g := gb179) (o := .cells #[.int .i64 a0_0, .int .i64 a0_1, .slice A0_2 l0_2.length c0_2] 32 (0, 0)) zK hg (Kd.R_ne HO_9.out BK179.out (by decide))); have n2_ := Aside0.mk (hb); have n3_ := Aside0.mk (ho); clear HO_7; clear BK179; clear HB; clear HO_9; have HO_7 := n0_; have BK179 := n1_; have HB := n2_; have HO191 := n3_; clear n0_ n1_ n2_ n3_; clear ho hb hg hat))
               go_roundg k2
               case measure => have := HK1.out; have := HK2.out; omega
               case rel => exact ⟨(y189), (wrap64 (x10_2 + 1)), (by first | rfl | (simp; done) | (simp [*]; done)), H', ⟨by have := HK1.out; have := HK2.out; omega⟩, ⟨by (with_reducible repeat (first | apply Kd.S_alloc | apply Kd.S_drewN | apply Kd.S_drew)); exact Kd.S_mono HO_7.out (fun _ hk => hk.2)⟩, ⟨zR⟩, ⟨zK⟩, ⟨zB⟩⟩
              ·rw [if_neg c12] at H
               exact absurd H (by simp)
             ·rw [if_neg c10] at H
              have c10b0 : decide (x10_2 < ((rd_L7 l1 0).length : Int)) = false := decide_eq_false c10
              clear c10
              by_cases c15 : x7_1.length < 5864062014805
              ·rw [if_pos c15] at H
               have LMc15 := Aside0.mk c15
               clear c15
               obtain ⟨y192, hy192⟩ : ∃ y_ : List (List (S27)), y_ = (x7_1 ++ [x9_2]) := ⟨_, rfl⟩
               replace H : (spec_l08Value.l0 k2 l1 ((rd_L7 l1 0).length : Int) y192 (wrap64 (x8_1 + 1)) a0_0 a0_1 l0_2) = some (r1, r2) := by first | (rw [hy192]; with_reducible exact H) | (have H2_ := (Option.bind_some _ _).symm.trans H; rw [hy192]; with_reducible exact H2_) | (have H2_ := (Option.bind_some _ _).symm.trans H; with_reducible exact H2_) | with_reducible exact H | (rw [hy192]; exact H) | exact H
               have Ny192 := Aside0.mk hy192
               clear hy192
               have H' := Aside0.mk H
               clear H
               obtain ⟨Ao17, co17, eo17⟩ := Kd.R_slice HO_9.out
               subst eo17
               go_wp2_with (first | ((with_reducible refine gate_builtin (b := .append) (xs := #[.tmp 41, .tmp 43]) rfl ?_); at_builtin; refine Kd.S_append (Kd.slice 27 k27) (w0 := w) w.heap.size rfl (.tmp 41) (.tmp 43) 39 77 (.slice none 0 0) 24 rfl Try.underlying39 info77 rfl (by decide) (by omega) u7 x7_1 x9_2 [.slice Ao17 x9_2.length co17] (fun _ => True) (fun k_ => some k_ = (.slice Ao17 x9_2.length co17 : Value).ownBlock) rfl rfl ?aP (fun k_ hk_ => ((Kd.R_mono (ok' := fun k_ => ((fun _ => True)) k_ ∧ some k_ ≠ (u7 : Value).ownBlock) (Kd.R_apart' (HO_9.out) (Kd.S_typed HO_7.out) (by decide)) (fun k_ hk => ⟨trivial, hk.2⟩))).1 k_ hk_.symm) ?aF ?aO ?aB ?aS ?aL ?_; (case aP => exact Kd.M_row (Kd.R_mono (Kd.R_tight rfl (Kd.R_mono (ok' := fun k_ => ((fun _ => True)) k_ ∧ some k_ ≠ (u7 : Value).ownBlock) (Kd.R_apart' (HO_9.out) (Kd.S_typed HO_7.out) (by decide)) (fun k_ hk => ⟨trivial, hk.2⟩))) (fun _ h_ => h_))); (case aB => exact zB); (case aF => exact (fun _ _ => trivial)); (case aO => exact (by (with_reducible repeat (first | apply Kd.S_alloc | apply Kd.S_drewN | apply Kd.S_drew)); exact Kd.S_mono HO_7.out (fun k_ hk => ⟨trivial, fun e_ => hk e_⟩))); (case aS => exact (below_size zB)); (case aL => have := LMc15.out; omega); intro v193 w16 ho hb hg hat; rw [← Ny192.out] at ho; have n0_ := Aside0.mk (blk_grown (g := gb179) (o := .cells #[.int .i64 a0_0, .int .i64 a0_1, .slice A0_2 l0_2.length c0_2] 32 (0, 0)) zK hg (Kd.S_ne HO_7.out BK179.out (by decide))); have n1_ := Aside0.mk (hb); have n2_ := Aside0.mk (ho); clear BK179; clear HB; clear HO_7; clear HO_9; have BK179 := n0_; have HB := n1_; have HO194 := n2_; clear n0_ n1_ n2_; clear ho hb hg hat))
               go_roundg k2
               case measure => have := HK1.out; have := HK2.out; omega
               case rel => exact ⟨(y192), (wrap64 (x8_1 + 1)), (by first | rfl | (simp; done) | (simp [*]; done)), H', ⟨by have := HK1.out; have := HK2.out; omega⟩, ⟨zS⟩, ⟨zK⟩, ⟨zB⟩⟩
              ·rw [if_neg c15] at H
               exact absurd H (by simp)
        · rw [if_neg c7] at H
          have c7b0 : decide (x8_1 < ((rd_L7 l1 0).length : Int)) = false := decide_eq_false c7
          clear c7
          have H' := Aside0.mk H
          clear H
          go_wp2
          go_loopg [11] k1 (fun kq v11 w' => ∃ (x7_2 : List (List (S27))) (x11_2 : Int), v11 = .int .i64 x11_2 ∧ Aside0 (spec_l08Value.l2 kq l1 ((rd_L7 l1 0).length : Int) x7_2 x11_2 a0_0 a0_1 l0_2 = some (r1, r2)) ∧ Aside0 (kq ≤ k1) ∧ Aside0 (Kd.S (Kd.slice 27 k27) 77 w' w.heap.size (fun _ => True) u7 x7_2) ∧ Aside0 (w'.heap[gb179]? = some (.cells #[.int .i64 a0_0, .int .i64 a0_1, (.slice A0_2 l0_2.length c0_2)] 32 (0, 0))) ∧ Aside0 (Below w.heap.size w w'))
          case atStart => exact ⟨(x7_1), (0), (by first | rfl | (simp; done) | (simp [*]; done)), H', ⟨Nat.le_refl _⟩, ⟨zS⟩, ⟨zK⟩, ⟨zB⟩⟩
          case round =>
            clear H'
            obtain ⟨x7_2, x11_2, rfl, HA, HK2, HO_7, BK179, HB⟩ := hrel
            cases gk with
            | zero => exact absurd HA.out (by simp [spec_l08Value.l2])
            | succ k2 =>
             have H := HA.out
             clear HA
             simp only [spec_l08Value.l2] at H
             by_cases c18 : x11_2 < (l0_2.length : Int)
             ·rw [if_pos c18] at H
              have c18b0 : decide (x11_2 < (l0_2.length : Int)) = true := decide_eq_true c18
              clear c18
              by_cases c19 : 0 ≤ x11_2
              ·rw [if_pos c19] at H
               have c19b0 : decide (0 ≤ x11_2) = true := decide_eq_true c19
               clear c19
               replace H := Option.bind_eq_some_iff.mp H
               obtain ⟨⟨t196, t197⟩, A200, H⟩ := H
               replace H : (if t197 = true then (spec_l08Value.l3 k2 l1 ((rd_L7 l1 0).length : Int) x7_2 x11_2 t196 0 a0_0 a0_1 l0_2) else (some (([] : List (List (S27))), false))) = some (r1, r2) := H
               have A20 := Aside0.mk A200
               clear A200
               by_cases c21 : t197 = true
               ·subst c21
                have H1 : (spec_l08Value.l3 k2 l1 ((rd_L7 l1 0).length : Int) x7_2 x11_2 t196 0 a0_0 a0_1 l0_2) = some (r1, r2) := by rw [if_pos rfl] at H; exact H
                clear H
                have H := H1
                clear H1
                have H' := Aside0.mk H
                clear H
                have hcz22_0 : wr.cell? ⟨gb179, 0, none⟩ = some (.int .i64 a0_0) := zE BK179
                have hcz22_1 : wr.cell? ⟨gb179, 1, none⟩ = some (.int .i64 a0_1) := zE BK179
                have hcz22_2 : wr.cell? ⟨gb179, 2, none⟩ = some (.slice A0_2 l0_2.length c0_2) := zE BK179
                have hfz22_0 := blk_frozen BK179.out 0
                have hfz22_1 := blk_frozen BK179.out 1
                have hfz22_2 := blk_frozen BK179.out 2
                have p195 : 0 ≤ (x11_2 : Int) := zD
                have q195 : x11_2 < (l0_2.length : Int) := zD
                obtain ⟨ad195, e195, hx195_0, hx195_1, hx195_2⟩ := at_T89 HR0_2.out x11_2 p195 q195
                cases e195
                replace hx195_0 := zH HB hx195_0
                replace hx195_1 := zH HB hx195_1
                replace hx195_2 := zH HB hx195_2
                replace p195 := eq_true p195
                replace q195 := eq_true q195
                go_wp2_with (first | ((with_reducible refine gate_callee (f := 107) rfl ?_); refine goesL_ (some 60) rfl rfl Try.func107 (by kernel_rfl) rfl #[.slice (some ad180) l1.length c1, .string ((rd_T89 l0_2 x11_2).f0)] rfl zM ?_; (with_reducible refine (spec_l08Product.calls k2 _ _ l1 ((rd_T89 l0_2 x11_2).f0) t196 true _ ?side1 ?side2 A20.out).mono ?_); (case side1 => repeat (first | exact (Kd.C_below HR1.out HB.out) | (with_reducible refine Kd.C_alloc ?_ _) | (with_reducible refine Kd.C_drewN ?_ _) | (with_reducible refine Kd.C_drew ?_))); (case side2 => exact HC1.out); rintro e w23 ⟨v198, rfl, ho0, hb⟩; refine ⟨_, rfl, ?_⟩; have n0_ := Aside0.mk (Kd.S_below zS hb); have n1_ := Aside0.mk (Kd.S_lower ho0 (below_size zB)); have n2_ := Aside0.mk (blk_below (g := gb179) (o := .cells #[.int .i64 a0_0, .int .i64 a0_1, .slice (some ad195) l0_2.length c0_2] 32 (0, 0)) zK hb); have n3_ := Aside0.mk (below_step zB hb); clear HO_7; clear BK179; clear HB; have HO_7 := n0_; have HO199 := n1_; have BK179 := n2_; have HB := n3_; clear n0_ n1_ n2_ n3_; (try clear hb); (try clear hb2); (try clear hk); (try clear hi); (try clear ho0)))
                go_loopg [14] k2 (fun kq v14 w' => ∃ (x7_3 : List (List (S27))) (x14_3 : Int), v14 = .int .i64 x14_3 ∧ Aside0 (spec_l08Value.l3 kq l1 ((rd_L7 l1 0).length : Int) x7_3 x11_2 t196 x14_3 a0_0 a0_1 l0_2 = some (r1, r2)) ∧ Aside0 (kq ≤ k2) ∧ Aside0 (Kd.S (Kd.slice 27 k27) 77 w' w.heap.size (fun _ => True) u7 x7_3) ∧ Aside0 (Kd.S (Kd.slice 2 (Kd.int .i64)) 48 w' w.heap.size (fun _ => True) v198 t196) ∧ Aside0 (w'.heap[gb179]? = some (.cells #[.int .i64 a0_0, .int .i64 a0_1, (.slice (some ad195) l0_2.length c0_2)] 32 (0, 0))) ∧ Aside0 (Below w.heap.size w w'))
                case atStart => exact ⟨(x7_2), (0), (by first | rfl | (simp; done) | (simp [*]; done)), H', ⟨Nat.le_refl _⟩, ⟨zS⟩, ⟨zS⟩, ⟨zK⟩, ⟨zB⟩⟩
                case round =>
                 clear H'
                 obtain ⟨x7_3, x14_3, rfl, HA, HK3, HO_7, HO_12, BK179, HB⟩ := hrel
                 cases gk with
                 | zero => exact absurd HA.out (by simp [spec_l08Value.l3])
                 | succ k3 =>
                  have H := HA.out
                  clear HA
                  simp only [spec_l08Value.l3] at H
                  by_cases c24 : x14_3 < ((rd_L7 l1 0).length : Int)
                  ·rw [if_pos c24] at H
                   by_cases e24 : 0 ≤ x14_3
                   ·rw [if_pos e24] at H
                    by_cases f24 : x14_3 < (x7_3.length : Int)
                    ·rw [if_pos f24] at H
                     have c24b0 : decide (x14_3 < ((rd_L7 l1 0).length : Int)) = true := decide_eq_true c24
                     clear c24
                     have H' := Aside0.mk H
                     clear H
                     obtain ⟨go, co, eu7, _, _, _⟩ := Kd.S_form HO_7.out (by omega)
                     subst eu7
                     obtain ⟨ad1_, Ar, cr, ea1_, hrow, _, _⟩ := at_L8 (Kd.S_reads' HO_7.out).2.2 x14_3 e24 f24
                     cases ea1_
                     rw [add_at, Nat.zero_add] at hrow
                     obtain ⟨Lr, hLr⟩ : ∃ Lr, (rd_L8 x7_3 x14_3).length = Lr := ⟨_, rfl⟩
                     rw [hLr] at hrow
                     have p24 := eq_true e24
                     have q24 := eq_true f24
                     have HL0 := Aside0.mk hLr
                     have HR0 := Aside0.mk hrow
                     clear hLr
                     go_wp2
                     go_loopg [16] k3 (fun kq v16 w' => ∃ (x7_4 : List (List (S27))) (x15_4 : Int), v16 = .int .i64 x15_4 ∧ Aside0 (spec_l08Value.l4 kq l1 ((rd_L7 l1 0).length : Int) x7_4 x11_2 t196 x14_3 x15_4 a0_0 a0_1 l0_2 = some (r1, r2)) ∧ Aside0 (kq ≤ k3) ∧ Aside0 (Kd.S (Kd.slice 27 k27) 77 w' w.heap.size (fun _ => True) (.slice (some ⟨go, 0, none⟩) x7_3.length co) x7_4) ∧ Aside0 (Kd.S (Kd.slice 2 (Kd.int .i64)) 48 w' w.heap.size (fun _ => True) v198 t196) ∧ Aside0 (w'.heap[gb179]? = some (.cells #[.int .i64 a0_0, .int .i64 a0_1, (.slice (some ad195) l0_2.length c0_2)] 32 (0, 0))) ∧ Aside0 (Below w.heap.size w w') ∧ Aside0 (w'.cell? ⟨go, x14_3.toNat, none⟩ = some (.slice Ar Lr cr)) ∧ Aside0 (x7_4.length = x7_3.length ∧ (rd_L8 x7_4 x14_3).length = Lr))
                     case atStart => exact ⟨x7_3, 0, rfl, H', ⟨Nat.le_refl _⟩, HO_7, HO_12, BK179, HB, HR0, ⟨rfl, HL0.out⟩⟩
                     case round =>
                      clear H' hrow HR0 HL0
                      obtain ⟨x7_4, x15_4, rfl, HA, HK4, HO_7, HO_12, BK179, HB, HROW, HLEN⟩ := hrel
                      cases gk with
                      | zero => exact absurd HA.out (by simp [spec_l08Value.l4])
                      | succ k4 =>
                       have H := HA.out
                       clear HA
                       simp only [spec_l08Value.l4] at H
                       by_cases c25 : x15_4 < ((rd_L7 l1 0).length : Int)
                       ·rw [if_pos c25] at H
                        have c25b0 : decide (x15_4 < ((rd_L7 l1 0).length : Int)) = true := decide_eq_true c25
                        by_cases c26 : 0 ≤ x11_2
                        ·rw [if_pos c26] at H
                         by_cases c27 : x11_2 < (l0_2.length : Int)
                         ·rw [if_pos c27] at H
                          by_cases c28 : 0 ≤ x14_3
                          ·rw [if_pos c28] at H
                           by_cases c29 : x14_3 < (t196.length : Int)
                           ·rw [if_pos c29] at H
                            by_cases c30 : 0 ≤ x15_4
                            ·rw [if_pos c30] at H
                             by_cases c31 : x15_4 < ((rd_L6 t196 x14_3).length : Int)
                             ·rw [if_pos c31] at H
                              obtain ⟨⟨t203, t204⟩, A32, H⟩ := Option.bind_eq_some_iff.mp H
                              have A32 := Aside0.mk A32
                              obtain ⟨⟨t205, t206, t207⟩, A33, H⟩ := Option.bind_eq_some_iff.mp H
                              have A33 := Aside0.mk A33
                              dsimp only at H
                              by_cases c34 : x14_3 < (x7_4.length : Int)
                              ·rw [if_pos c34] at H
                               by_cases c35 : x15_4 < ((rd_L8 x7_4 x14_3).length : Int)
                               ·rw [if_pos c35] at H
                                obtain ⟨⟨t211, t212, t213⟩, A36, H⟩ := Option.bind_eq_some_iff.mp H
                                have A36 := Aside0.mk A36
                                dsimp only at H
                                have H' := Aside0.mk H
                                clear H
                                obtain ⟨ad200, e200, hx200_0, hx200_1, hx200_2⟩ := at_T89 HR0_2.out x11_2 c26 c27
                                obtain rfl : ad195 = ad200 := (by injection e200)
                                replace hx200_1 := zH HB hx200_1
                                replace hx200_2 := zH HB hx200_2
                                obtain ⟨Ao41, co41, eo41⟩ := Kd.S_slice HO_12.out
                                subst eo41
                                obtain ⟨ad201, A201_0, c201_0, e201, hx201_0, hl201_0, hi201_0⟩ := at_L6 (Kd.S_reads' HO_12.out).2.2 x14_3 c28 c29
                                cases e201
                                obtain ⟨ad202, e202, hx202_0⟩ := Kd.at_int hi201_0 x15_4 c30 c31
                                cases e202
                                obtain ⟨gi, ci, hgc, _, hgne, hgb, hgl, hg0, hg1, hgf, hgt, hgput⟩ := Hand.S_cell HO_7.out x14_3 x15_4 c28 c34 c30 c35
                                obtain ⟨hcells, hgt⟩ := hgt
                                have eq_ := HROW.out.symm.trans hgc
                                rw [HLEN.out.2] at eq_
                                obtain rfl : Ar = some ⟨gi, 0, none⟩ := by injection eq_ with e_; injection e_
                                have hLi : x15_4 < (Lr : Int) := by have := HLEN.out.2; omega
                                have hz0 := (blk_cell BK179.out 2).trans (show _ = some (Value.slice (some ad195) l0_2.length c0_2) from rfl)
                                have p26 := eq_true c26
                                have p27 := eq_true c27
                                have p28 := eq_true c28
                                have p29 := eq_true c29
                                have p30 := eq_true c30
                                have p31 := eq_true c31
                                have pLi := eq_true hLi
                                have HS24 := Aside0.mk (show ∀ W, Below wr.drew.heap.size wr.drew W → (fun w' => w'.cell? ⟨gb179, 2, none⟩ = some (.slice (some ad195) l0_2.length c0_2) ∧ w'.cell? ⟨(ad195.add (x11_2.toNat * 3)).block, (ad195.add (x11_2.toNat * 3)).off + 1, none⟩ = some (.int .i64 (rd_T89 l0_2 x11_2).f1.f0) ∧ w'.cell? ⟨(ad195.add (x11_2.toNat * 3)).block, (ad195.add (x11_2.toNat * 3)).off + 2, none⟩ = some (.int .i64 (rd_T89 l0_2 x11_2).f1.f1) ∧ w'.cell? (ad201.add x14_3.toNat) = some (.slice (some ad202) (rd_L6 t196 x14_3).length c201_0) ∧ w'.cell? (ad202.add x15_4.toNat) = some (.int .i64 (rd (rd_L6 t196 x14_3) x15_4))) W from fun W hb => ⟨pw_cell_below hb hz0, pw_cell_below hb hx200_1, pw_cell_below hb hx200_2, pw_cell_below hb hx201_0, pw_cell_below hb hx202_0⟩)
                                clear hx200_0 hx200_1 hx200_2 hx201_0 hx202_0 hl201_0 hi201_0 hz0 hgc eq_
                                have HG0 := Aside0.mk hg0
                                have HG1 := Aside0.mk hg1
                                have HGT := Aside0.mk hgt
                                have HPUT := Aside0.mk hgput
                                have HGB := Aside0.mk hgb
                                have HGN := Aside0.mk hgne
                                have HGL := Aside0.mk hgl
                                clear hg0 hg1 hgt hgput hgb hgne hgl hgf
                                go_wp2
                                refine start_ (n := 21) (S := (fun w' => w'.cell? ⟨gb179, 2, none⟩ = some (.slice (some ad195) l0_2.length c0_2) ∧ w'.cell? ⟨(ad195.add (x11_2.toNat * 3)).block, (ad195.add (x11_2.toNat * 3)).off + 1, none⟩ = some (.int .i64 (rd_T89 l0_2 x11_2).f1.f0) ∧ w'.cell? ⟨(ad195.add (x11_2.toNat * 3)).block, (ad195.add (x11_2.toNat * 3)).off + 2, none⟩ = some (.int .i64 (rd_T89 l0_2 x11_2).f1.f1) ∧ w'.cell? (ad201.add x14_3.toNat) = some (.slice (some ad202) (rd_L6 t196 x14_3).length c201_0) ∧ w'.cell? (ad202.add x15_4.toNat) = some (.int .i64 (rd (rd_L6 t196 x14_3) x15_4)))) (ds := []) #[false, false, false, false, false, false, false, false, false, false, false, false, false, false, false, false, false, false, false, false, false] (by kernel_rfl) rfl rfl (HS24.out _ (Below.refl _ _)) (fun hHeld => ?_)
                                have HW := Aside0.mk (Below.refl wr.drew.heap.size wr.drew)
                                refine zP 0 (N := some 80) (h := ?_)
                                refine zT 1 hHeld (N := some 81) (h := ?_)
                                refine zP 2 (N := some 82) (h := ?_)
                                refine zP 3 (N := some 83) (h := ?_)
                                refine zP 4 (N := some 84) (h := ?_)
                                refine zT 5 hHeld (N := some 85) (h := ?_)
                                refine zP 6 (N := some 86) (h := ?_)
                                refine zP 7 (N := some 87) (h := ?_)
                                refine zP 8 (N := some 88) (h := ?_)
                                refine zT 9 hHeld (N := some 89) (h := ?_)
                                refine zP 10 (N := some 90) (h := ?_)
                                refine zP 11 (N := some 91) (h := ?_)
                                refine zT 12 hHeld (N := some 92) (h := ?_)
                                refine join_ (σ := Nat) 2 #[true, true, true, true, true, true, true, true, true, true, true, true, true, true, true, true, true, true, true, false, false] (fun s_ => [(93, .agg #[.int .i64 t203, .int .i64 t204]), (94, .tuple #[.agg #[.int .i64 t205, .int .i64 t206], .bool t207]), (79, .tuple #[.agg #[.int .i64 t205, .int .i64 t206], .bool t207]), (95, .agg #[.int .i64 t205, .int .i64 t206]), (96, .bool t207), (17, .pointer (some ⟨s_, 0, none⟩))]) (fun s_ w' => Below wr.drew.heap.size wr.drew w' ∧ wr.drew.heap.size ≤ s_ ∧ w'.heap[s_]? = some (.cells #[.int .i64 0, .int .i64 0] 27 (0, 0))) ?_ ?_
                                rotate_left
                                ·intro hCont
                                 refine two_ (i := 13) (j := 18) (Ni := some 93) (Nj := some 17) #[true, true, true, true, true, true, true, true, true, true, true, true, true, true, false, false, false, false, false, false, false] #[true, true, true, true, true, true, true, true, true, true, true, true, true, false, false, false, false, false, true, false, false] rfl rfl rfl rfl (by kernel_rfl) (by decide) (by decide) (fun K hK => ?_) (fun K hK => ?_)
                                 ·skip
                                  refine goes_ Try.func106 (by kernel_rfl) rfl #[.int .i64 (rd (rd_L6 t196 x14_3) x15_4)] (by rfl) rfl rfl zM ?_; (with_reducible refine (spec_l02One.calls (rd (rd_L6 t196 x14_3) x15_4) t203 t204 _ A32.out).mono ?_); rintro e w5 ⟨rfl, hb⟩; refine ⟨_, rfl, ?_⟩
                                  have HW := Aside0.mk (below_step HW.out hb)
                                  clear hb
                                  refine hK.out _ _ (HS24.out _ HW.out) (fun hHeld => ?_)
                                  clear hK K
                                  refine zN (h := ?_)
                                  refine two_ (i := 14) (j := 18) (Ni := some 94) (Nj := some 17) #[true, true, true, true, true, true, true, true, true, true, true, true, true, true, true, false, false, false, false, false, false] #[true, true, true, true, true, true, true, true, true, true, true, true, true, true, false, false, false, false, true, false, false] rfl rfl rfl rfl (by kernel_rfl) (by decide) (by decide) (fun K hK => ?_) (fun K hK => ?_)
                                  ·skip
                                   refine goes_ Try.func108 (by kernel_rfl) rfl #[.agg #[.int .i64 (rd_T89 l0_2 x11_2).f1.f0, .int .i64 (rd_T89 l0_2 x11_2).f1.f1], .agg #[.int .i64 t203, .int .i64 t204]] (by rfl) rfl rfl zM ?_; (with_reducible refine (spec_l01TimesFrac.calls k4 (rd_T89 l0_2 x11_2).f1.f0 (rd_T89 l0_2 x11_2).f1.f1 t203 t204 t205 t206 t207 _ A33.out).mono ?_); rintro e w6 ⟨rfl, hb⟩; refine ⟨_, rfl, ?_⟩
                                   have HW := Aside0.mk (below_step HW.out hb)
                                   clear hb
                                   refine hK.out _ _ (HS24.out _ HW.out) (fun hHeld => ?_)
                                   clear hK K
                                   refine zN (h := ?_)
                                   refine zP 15 (N := some 79) (h := ?_)
                                   refine zP 16 (N := some 95) (h := ?_)
                                   refine zP 17 (N := some 96) (h := ?_)
                                   refine one_ (i := 18) (N := some 17) #[true, true, true, true, true, true, true, true, true, true, true, true, true, true, true, true, true, true, true, false, false] rfl rfl (by kernel_rfl) (by decide) (fun K hK => ?_)
                                   refine box_step ?hg (N := 17) ?hd (cs := #[.int .i64 0, .int .i64 0]) (t := 27) ?hr ?_; (case hd => rfl); (case hg => rfl); (case hr => first | (go_simp; done) | (go_simp; rfl))
                                   intro gb hg wk hbox hb
                                   have HG := Aside0.mk (show wr.drew.heap.size ≤ gb by rw [hg]; exact below_size HW.out)
                                   have HX := Aside0.mk hbox
                                   clear hg hbox
                                   have HW := Aside0.mk (below_step HW.out hb)
                                   clear hb
                                   refine hK.out _ _ (HS24.out _ HW.out) (fun hHeld => ?_)
                                   clear hK K
                                   refine norm_ (a' := ?_) ?_ ?_
                                   rotate_left
                                   ·show Act.put _ (some 17) _ = _
                                    simp only [Act.put, List.setIfInBounds_toArray, List.set_cons_zero, List.set_cons_succ, i64_w, i32_w]
                                    rfl
                                   exact norm_ (by simp only [putAll, Act.put, List.setIfInBounds_toArray, List.set_cons_zero, List.set_cons_succ]) (hCont gb _ ⟨HW.out, HG.out, HX.out⟩)
                                  ·skip
                                   refine box_step ?hg (N := 17) ?hd (cs := #[.int .i64 0, .int .i64 0]) (t := 27) ?hr ?_; (case hd => rfl); (case hg => rfl); (case hr => first | (go_simp; done) | (go_simp; rfl))
                                   intro gb hg wk hbox hb
                                   have HG := Aside0.mk (show wr.drew.heap.size ≤ gb by rw [hg]; exact below_size HW.out)
                                   have HX := Aside0.mk hbox
                                   clear hg hbox
                                   have HW := Aside0.mk (below_step HW.out hb)
                                   clear hb
                                   refine hK.out _ _ (HS24.out _ HW.out) (fun hHeld => ?_)
                                   clear hK K
                                   refine norm_ (a' := ?_) ?_ ?_
                                   rotate_left
                                   ·show Act.put _ (some 17) _ = _
                                    simp only [Act.put, List.setIfInBounds_toArray, List.set_cons_zero, List.set_cons_succ, i64_w, i32_w]
                                    rfl
                                   refine one_ (i := 14) (N := some 94) #[true, true, true, true, true, true, true, true, true, true, true, true, true, true, true, false, false, false, true, false, false] rfl rfl (by kernel_rfl) (by decide) (fun K hK => ?_)
                                   refine goes_ Try.func108 (by kernel_rfl) rfl #[.agg #[.int .i64 (rd_T89 l0_2 x11_2).f1.f0, .int .i64 (rd_T89 l0_2 x11_2).f1.f1], .agg #[.int .i64 t203, .int .i64 t204]] (by rfl) rfl rfl zM ?_; (with_reducible refine (spec_l01TimesFrac.calls k4 (rd_T89 l0_2 x11_2).f1.f0 (rd_T89 l0_2 x11_2).f1.f1 t203 t204 t205 t206 t207 _ A33.out).mono ?_); rintro e w6 ⟨rfl, hb⟩; refine ⟨_, rfl, ?_⟩
                                   have HX := Aside0.mk ((hb.block gb (blk_lt HX.out)).trans HX.out)
                                   have HW := Aside0.mk (below_step HW.out hb)
                                   clear hb
                                   refine hK.out _ _ (HS24.out _ HW.out) (fun hHeld => ?_)
                                   clear hK K
                                   refine zN (h := ?_)
                                   refine zP 15 (N := some 79) (h := ?_)
                                   refine zP 16 (N := some 95) (h := ?_)
                                   refine zP 17 (N := some 96) (h := ?_)
                                   exact norm_ (by simp only [putAll, Act.put, List.setIfInBounds_toArray, List.set_cons_zero, List.set_cons_succ]) (hCont gb _ ⟨HW.out, HG.out, HX.out⟩)
                                 ·skip
                                  refine box_step ?hg (N := 17) ?hd (cs := #[.int .i64 0, .int .i64 0]) (t := 27) ?hr ?_; (case hd => rfl); (case hg => rfl); (case hr => first | (go_simp; done) | (go_simp; rfl))
                                  intro gb hg wk hbox hb
                                  have HG := Aside0.mk (show wr.drew.heap.size ≤ gb by rw [hg]; exact below_size HW.out)
                                  have HX := Aside0.mk hbox
                                  clear hg hbox
                                  have HW := Aside0.mk (below_step HW.out hb)
                                  clear hb
                                  refine hK.out _ _ (HS24.out _ HW.out) (fun hHeld => ?_)
                                  clear hK K
                                  refine norm_ (a' := ?_) ?_ ?_
                                  rotate_left
                                  ·show Act.put _ (some 17) _ = _
                                   simp only [Act.put, List.setIfInBounds_toArray, List.set_cons_zero, List.set_cons_succ, i64_w, i32_w]
                                   rfl
                                  refine one_ (i := 13) (N := some 93) #[true, true, true, true, true, true, true, true, true, true, true, true, true, true, false, false, false, false, true, false, false] rfl rfl (by kernel_rfl) (by decide) (fun K hK => ?_)
                                  refine goes_ Try.func106 (by kernel_rfl) rfl #[.int .i64 (rd (rd_L6 t196 x14_3) x15_4)] (by rfl) rfl rfl zM ?_; (with_reducible refine (spec_l02One.calls (rd (rd_L6 t196 x14_3) x15_4) t203 t204 _ A32.out).mono ?_); rintro e w5 ⟨rfl, hb⟩; refine ⟨_, rfl, ?_⟩
                                  have HX := Aside0.mk ((hb.block gb (blk_lt HX.out)).trans HX.out)
                                  have HW := Aside0.mk (below_step HW.out hb)
                                  clear hb
                                  refine hK.out _ _ (HS24.out _ HW.out) (fun hHeld => ?_)
                                  clear hK K
                                  refine zN (h := ?_)
                                  refine one_ (i := 14) (N := some 94) #[true, true, true, true, true, true, true, true, true, true, true, true, true, true, true, false, false, false, true, false, false] rfl rfl (by kernel_rfl) (by decide) (fun K hK => ?_)
                                  refine goes_ Try.func108 (by kernel_rfl) rfl #[.agg #[.int .i64 (rd_T89 l0_2 x11_2).f1.f0, .int .i64 (rd_T89 l0_2 x11_2).f1.f1], .agg #[.int .i64 t203, .int .i64 t204]] (by rfl) rfl rfl zM ?_; (with_reducible refine (spec_l01TimesFrac.calls k4 (rd_T89 l0_2 x11_2).f1.f0 (rd_T89 l0_2 x11_2).f1.f1 t203 t204 t205 t206 t207 _ A33.out).mono ?_); rintro e w6 ⟨rfl, hb⟩; refine ⟨_, rfl, ?_⟩
                                  have HX := Aside0.mk ((hb.block gb (blk_lt HX.out)).trans HX.out)
                                  have HW := Aside0.mk (below_step HW.out hb)
                                  clear hb
                                  refine hK.out _ _ (HS24.out _ HW.out) (fun hHeld => ?_)
                                  clear hK K
                                  refine zN (h := ?_)
                                  refine zP 15 (N := some 79) (h := ?_)
                                  refine zP 16 (N := some 95) (h := ?_)
                                  refine zP 17 (N := some 96) (h := ?_)
                                  exact norm_ (by simp only [putAll, Act.put, List.setIfInBounds_toArray, List.set_cons_zero, List.set_cons_succ]) (hCont gb _ ⟨HW.out, HG.out, HX.out⟩)
                                intro gb wj hj
                                obtain ⟨hjb, hjg, hjx⟩ := hj
                                have HW := Aside0.mk hjb
                                have HG := Aside0.mk hjg
                                have HX := Aside0.mk hjx
                                clear hjb hjg hjx
                                have hHeld := HS24.out _ HW.out
                                refine norm_ (a' := ?_) ?_ ?_
                                rotate_left
                                ·simp only [putAll, Act.put, List.setIfInBounds_toArray, List.set_cons_zero, List.set_cons_succ]
                                 rfl
                                have x0 := (blk_cell HX.out 0).trans (show _ = some (Value.int .i64 0) from rfl)
                                have x1 := (blk_cell HX.out 1).trans (show _ = some (Value.int .i64 0) from rfl)
                                have f0 := blk_frozen HX.out 0
                                have f1 := blk_frozen HX.out 1
                                refine one_ (i := 19) (N := none) #[true, true, true, true, true, true, true, true, true, true, true, true, true, true, true, true, true, true, true, true, false] rfl rfl (by kernel_rfl) (by decide) (fun K hK => ?_)
                                go_simp
                                have hb2 := below_set (below_set (j := 0) (v := .int .i64 t205) HW.out HG.out) (j := 1) (v := .int .i64 t206) HG.out
                                refine hK.out _ _ (HS24.out _ hb2) (fun hHeld => ?_)
                                clear hK K
                                have HX := Aside0.mk (blk_put (cs' := #[.int .i64 t205, .int .i64 t206]) (blk_put (cs' := #[.int .i64 t205, .int .i64 0]) HX.out 0 (.int .i64 t205) rfl) 1 (.int .i64 t206) rfl)
                                have HW := Aside0.mk hb2
                                clear hb2 x0 x1 f0 f1 hHeld
                                refine zP 20 (N := some 18) (h := ?_)
                                refine done_ (by kernel_rfl) ?_
                                generalize hW6 : ((wj.setCell ⟨gb, 0, none⟩ (.int .i64 t205)).setCell ⟨gb, 1, none⟩ (.int .i64 t206)) = W6 at HW HX ⊢
                                clear hW6
                                generalize gb = ga at HG HX ⊢
                                have HW6 := HW
                                have HX6 := HX
                                clear HW HX HS24
                                have y0 : W6.cell? ⟨ga, 0, none⟩ = some (.int .i64 t205) := (blk_cell HX6.out 0).trans rfl
                                have y1 : W6.cell? ⟨ga, 1, none⟩ = some (.int .i64 t206) := (blk_cell HX6.out 1).trans rfl
                                have y2 := pw_cell_below HW6.out HG0.out
                                have y3 := pw_cell_below HW6.out HG1.out
                                have HS25 := Aside0.mk (show ∀ W, Below W6.drew.heap.size W6.drew W → (fun w' => w'.cell? ⟨gi, x15_4.toNat * 2, none⟩ = some (.int .i64 (rd_T27 (rd_L8 x7_4 x14_3) x15_4).f0) ∧ w'.cell? ⟨gi, x15_4.toNat * 2 + 1, none⟩ = some (.int .i64 (rd_T27 (rd_L8 x7_4 x14_3) x15_4).f1) ∧ w'.cell? ⟨ga, 0, none⟩ = some (.int .i64 t205) ∧ w'.cell? ⟨ga, 1, none⟩ = some (.int .i64 t206)) W from fun W hb => ⟨pw_cell_below hb y2, pw_cell_below hb y3, pw_cell_below hb y0, pw_cell_below hb y1⟩)
                                clear y0 y1 y2 y3 HG HX6
                                go_wp2
                                refine start_ (n := 12) (S := (fun w' => w'.cell? ⟨gi, x15_4.toNat * 2, none⟩ = some (.int .i64 (rd_T27 (rd_L8 x7_4 x14_3) x15_4).f0) ∧ w'.cell? ⟨gi, x15_4.toNat * 2 + 1, none⟩ = some (.int .i64 (rd_T27 (rd_L8 x7_4 x14_3) x15_4).f1) ∧ w'.cell? ⟨ga, 0, none⟩ = some (.int .i64 t205) ∧ w'.cell? ⟨ga, 1, none⟩ = some (.int .i64 t206))) (ds := []) #[false, false, false, false, false, false, false, false, false, false, false, false] (by kernel_rfl) rfl rfl (HS25.out _ (Below.refl _ _)) (fun hHeld => ?_)
                                have HW := Aside0.mk (Below.refl W6.drew.heap.size W6.drew)
                                refine zP 0 (N := some 98) (h := ?_)
                                refine zP 1 (N := some 99) (h := ?_)
                                refine zP 2 (N := some 100) (h := ?_)
                                refine zT 3 hHeld (N := some 101) (h := ?_)
                                refine zT 4 hHeld (N := some 102) (h := ?_)
                                refine join_ (σ := Nat) 2 #[true, true, true, true, true, true, true, true, true, true, false, false] (fun s_ => [(103, .tuple #[.agg #[.int .i64 t211, .int .i64 t212], .bool t213]), (97, .tuple #[.agg #[.int .i64 t211, .int .i64 t212], .bool t213]), (104, .agg #[.int .i64 t211, .int .i64 t212]), (105, .bool t213), (19, .pointer (some ⟨s_, 0, none⟩))]) (fun s_ w' => Below W6.drew.heap.size W6.drew w' ∧ W6.drew.heap.size ≤ s_ ∧ w'.heap[s_]? = some (.cells #[.int .i64 0, .int .i64 0] 27 (0, 0))) ?_ ?_
                                rotate_left
                                ·intro hCont
                                 refine two_ (i := 5) (j := 9) (Ni := some 103) (Nj := some 19) #[true, true, true, true, true, true, false, false, false, false, false, false] #[true, true, true, true, true, false, false, false, false, true, false, false] rfl rfl rfl rfl (by kernel_rfl) (by decide) (by decide) (fun K hK => ?_) (fun K hK => ?_)
                                 ·skip
                                  refine goes_ Try.func109 (by kernel_rfl) rfl #[.agg #[.int .i64 (rd_T27 (rd_L8 x7_4 x14_3) x15_4).f0, .int .i64 (rd_T27 (rd_L8 x7_4 x14_3) x15_4).f1], .agg #[.int .i64 t205, .int .i64 t206]] (by rfl) rfl rfl zM ?_; (with_reducible refine (spec_l01Plus.calls k4 (rd_T27 (rd_L8 x7_4 x14_3) x15_4).f0 (rd_T27 (rd_L8 x7_4 x14_3) x15_4).f1 t205 t206 t211 t212 t213 _ A36.out).mono ?_); rintro e w5 ⟨rfl, hb⟩; refine ⟨_, rfl, ?_⟩
                                  have HW := Aside0.mk (below_step HW.out hb)
                                  clear hb
                                  refine hK.out _ _ (HS25.out _ HW.out) (fun hHeld => ?_)
                                  clear hK K
                                  refine zN (h := ?_)
                                  refine zP 6 (N := some 97) (h := ?_)
                                  refine zP 7 (N := some 104) (h := ?_)
                                  refine zP 8 (N := some 105) (h := ?_)
                                  refine one_ (i := 9) (N := some 19) #[true, true, true, true, true, true, true, true, true, true, false, false] rfl rfl (by kernel_rfl) (by decide) (fun K hK => ?_)
                                  refine box_step ?hg (N := 19) ?hd (cs := #[.int .i64 0, .int .i64 0]) (t := 27) ?hr ?_; (case hd => rfl); (case hg => rfl); (case hr => first | (go_simp; done) | (go_simp; rfl))
                                  intro gb hg wk hbox hb
                                  have HG := Aside0.mk (show W6.drew.heap.size ≤ gb by rw [hg]; exact below_size HW.out)
                                  have HX := Aside0.mk hbox
                                  clear hg hbox
                                  have HW := Aside0.mk (below_step HW.out hb)
                                  clear hb
                                  refine hK.out _ _ (HS25.out _ HW.out) (fun hHeld => ?_)
                                  clear hK K
                                  refine norm_ (a' := ?_) ?_ ?_
                                  rotate_left
                                  ·show Act.put _ (some 19) _ = _
                                   simp only [Act.put, List.setIfInBounds_toArray, List.set_cons_zero, List.set_cons_succ, i64_w, i32_w]
                                   rfl
                                  exact norm_ (by simp only [putAll, Act.put, List.setIfInBounds_toArray, List.set_cons_zero, List.set_cons_succ]) (hCont gb _ ⟨HW.out, HG.out, HX.out⟩)
                                 ·skip
                                  refine box_step ?hg (N := 19) ?hd (cs := #[.int .i64 0, .int .i64 0]) (t := 27) ?hr ?_; (case hd => rfl); (case hg => rfl); (case hr => first | (go_simp; done) | (go_simp; rfl))
                                  intro gb hg wk hbox hb
                                  have HG := Aside0.mk (show W6.drew.heap.size ≤ gb by rw [hg]; exact below_size HW.out)
                                  have HX := Aside0.mk hbox
                                  clear hg hbox
                                  have HW := Aside0.mk (below_step HW.out hb)
                                  clear hb
                                  refine hK.out _ _ (HS25.out _ HW.out) (fun hHeld => ?_)
                                  clear hK K
                                  refine norm_ (a' := ?_) ?_ ?_
                                  rotate_left
                                  ·show Act.put _ (some 19) _ = _
                                   simp only [Act.put, List.setIfInBounds_toArray, List.set_cons_zero, List.set_cons_succ, i64_w, i32_w]
                                   rfl
                                  refine one_ (i := 5) (N := some 103) #[true, true, true, true, true, true, false, false, false, true, false, false] rfl rfl (by kernel_rfl) (by decide) (fun K hK => ?_)
                                  refine goes_ Try.func109 (by kernel_rfl) rfl #[.agg #[.int .i64 (rd_T27 (rd_L8 x7_4 x14_3) x15_4).f0, .int .i64 (rd_T27 (rd_L8 x7_4 x14_3) x15_4).f1], .agg #[.int .i64 t205, .int .i64 t206]] (by rfl) rfl rfl zM ?_; (with_reducible refine (spec_l01Plus.calls k4 (rd_T27 (rd_L8 x7_4 x14_3) x15_4).f0 (rd_T27 (rd_L8 x7_4 x14_3) x15_4).f1 t205 t206 t211 t212 t213 _ A36.out).mono ?_); rintro e w5 ⟨rfl, hb⟩; refine ⟨_, rfl, ?_⟩
                                  have HX := Aside0.mk ((hb.block gb (blk_lt HX.out)).trans HX.out)
                                  have HW := Aside0.mk (below_step HW.out hb)
                                  clear hb
                                  refine hK.out _ _ (HS25.out _ HW.out) (fun hHeld => ?_)
                                  clear hK K
                                  refine zN (h := ?_)
                                  refine zP 6 (N := some 97) (h := ?_)
                                  refine zP 7 (N := some 104) (h := ?_)
                                  refine zP 8 (N := some 105) (h := ?_)
                                  exact norm_ (by simp only [putAll, Act.put, List.setIfInBounds_toArray, List.set_cons_zero, List.set_cons_succ]) (hCont gb _ ⟨HW.out, HG.out, HX.out⟩)
                                intro gb wj hj
                                obtain ⟨hjb, hjg, hjx⟩ := hj
                                have HW := Aside0.mk hjb
                                have HG := Aside0.mk hjg
                                have HX := Aside0.mk hjx
                                clear hjb hjg hjx
                                have hHeld := HS25.out _ HW.out
                                refine norm_ (a' := ?_) ?_ ?_
                                rotate_left
                                ·simp only [putAll, Act.put, List.setIfInBounds_toArray, List.set_cons_zero, List.set_cons_succ]
                                 rfl
                                have x0 := (blk_cell HX.out 0).trans (show _ = some (Value.int .i64 0) from rfl)
                                have x1 := (blk_cell HX.out 1).trans (show _ = some (Value.int .i64 0) from rfl)
                                have f0 := blk_frozen HX.out 0
                                have f1 := blk_frozen HX.out 1
                                refine one_ (i := 10) (N := none) #[true, true, true, true, true, true, true, true, true, true, true, false] rfl rfl (by kernel_rfl) (by decide) (fun K hK => ?_)
                                go_simp
                                have hb2 := below_set (below_set (j := 0) (v := .int .i64 t211) HW.out HG.out) (j := 1) (v := .int .i64 t212) HG.out
                                refine hK.out _ _ (HS25.out _ hb2) (fun hHeld => ?_)
                                clear hK K
                                have HX := Aside0.mk (blk_put (cs' := #[.int .i64 t211, .int .i64 t212]) (blk_put (cs' := #[.int .i64 t211, .int .i64 0]) HX.out 0 (.int .i64 t211) rfl) 1 (.int .i64 t212) rfl)
                                have HW := Aside0.mk hb2
                                clear hb2 x0 x1 f0 f1 hHeld
                                refine zP 11 (N := some 20) (h := ?_)
                                refine done_ (by kernel_rfl) ?_
                                generalize hW7 : ((wj.setCell ⟨gb, 0, none⟩ (.int .i64 t211)).setCell ⟨gb, 1, none⟩ (.int .i64 t212)) = W7 at HW HX ⊢
                                clear hW7 HG HS25
                                have HB7 := Aside0.mk (below_step (below_drew (below_step (below_drew HB.out) HW6.out)) HW.out)
                                cases t207 with
                                | false =>
                                 have H := H'.out
                                 obtain ⟨rfl, rfl⟩ : [] = r1 ∧ false = r2 := by simpa using H
                                 go_wp2
                                 go_ret2
                                 exact ⟨_, rfl, Kd.S_nil _ _ _ _ _, HB7.out⟩
                                | true =>
                                 cases t213 with
                                 | false =>
                                  have H := H'.out
                                  obtain ⟨rfl, rfl⟩ : [] = r1 ∧ false = r2 := by simpa using H
                                  go_wp2
                                  go_ret2
                                  exact ⟨_, rfl, Kd.S_nil _ _ _ _ _, HB7.out⟩
                                 | true =>
                                  have H := H'.out
                                  rw [if_pos rfl, if_pos rfl] at H
                                  have H' := Aside0.mk H
                                  clear H
                                  have HO7 := Aside0.mk (Kd.S_below (Kd.S_drew (Kd.S_below (Kd.S_drew HO_7.out) HW6.out)) HW.out)
                                  have HP7 := Aside0.mk (Kd.S_below (Kd.S_drew (Kd.S_below (Kd.S_drew HO_12.out) HW6.out)) HW.out)
                                  have BK7 := Aside0.mk (blk_below (g := gb179) (o := .cells #[.int .i64 a0_0, .int .i64 a0_1, .slice (some ad195) l0_2.length c0_2] 32 (0, 0)) (blk_drew (blk_below (g := gb179) (o := .cells #[.int .i64 a0_0, .int .i64 a0_1, .slice (some ad195) l0_2.length c0_2] 32 (0, 0)) (blk_drew BK179.out) HW6.out)) HW.out)
                                  have hrow7 := pw_cell_below HW.out (show W6.drew.cell? ⟨go, x14_3.toNat, none⟩ = some (.slice (some ⟨gi, 0, none⟩) Lr cr) from pw_cell_below HW6.out HROW.out)
                                  obtain ⟨gi', ci', hgc, _, hgne, hgb, hgl, hg0, hg1, hgf, ⟨hcells, hgt⟩, hgput⟩ := Hand.S_cell HO7.out x14_3 x15_4 c28 c34 c30 c35
                                  have eq_ := hrow7.symm.trans hgc
                                  obtain rfl : gi = gi' := by injection eq_ with e_; injection e_ with e_; injection e_ with e_; injection e_
                                  have y0 : W7.cell? ⟨gb, 0, none⟩ = some (.int .i64 t211) := (blk_cell HX.out 0).trans rfl
                                  have y1 : W7.cell? ⟨gb, 1, none⟩ = some (.int .i64 t212) := (blk_cell HX.out 1).trans rfl
                                  have z0 := hgf (x15_4.toNat * 2)
                                  have z1 := hgf (x15_4.toNat * 2 + 1)
                                  have hbk : gb179 ≠ gi := fun e => by have h1 := BK7.out; rw [e, hgt] at h1; injection h1 with h1; injection h1 with _ h1; cases h1
                                  have HGT := Aside0.mk hgt
                                  have HPUT := Aside0.mk hgput
                                  have HGB := Aside0.mk hgb
                                  have HGN := Aside0.mk hgne
                                  have HBK := Aside0.mk hbk
                                  have HRW := Aside0.mk hrow7
                                  clear hgt hgput hgb hgne hbk hrow7 hgc eq_ hgf hgl
                                  go_wp2
                                  go_roundg k4
                                  case measure => have := HK1.out; have := HK2.out; have := HK3.out; have := HK4.out; omega
                                  case rel =>
                                   have e8 : rd_L8 (x7_4.set x14_3.toNat ((rd_L8 x7_4 x14_3).set x15_4.toNat ⟨t211, t212⟩)) x14_3 = (rd_L8 x7_4 x14_3).set x15_4.toNat ⟨t211, t212⟩ := by
                                    unfold rd_L8
                                    rw [List.getD_eq_getElem?_getD, List.getElem?_set_self (by omega)]
                                    rfl
                                   refine ⟨_, wrap64 (x15_4 + 1), by first | rfl | (simp; done), H', ⟨by have := HK1.out; have := HK2.out; have := HK3.out; have := HK4.out; omega⟩, ⟨HPUT.out t211 t212⟩, ⟨Kd.S_set (Kd.S_set HP7.out HGT.out (by decide) _ _) (blk_put HGT.out _ _ rfl) (by decide) _ _⟩, ⟨(Below.heap_setCell _ ⟨gi, _, none⟩ _ gb179 HBK.out).trans ((Below.heap_setCell _ ⟨gi, _, none⟩ _ gb179 HBK.out).trans BK7.out)⟩, ⟨below_set (below_set HB7.out HGB.out) HGB.out⟩, ⟨(World.cell?_setCell_far _ ⟨gi, _, none⟩ ⟨go, _, none⟩ _ HGN.out).trans ((World.cell?_setCell_far _ ⟨gi, _, none⟩ ⟨go, _, none⟩ _ HGN.out).trans HRW.out)⟩, ⟨by rw [List.length_set]; exact HLEN.out.1, by rw [e8, List.length_set]; exact HLEN.out.2⟩⟩
                               ·rw [if_neg c35] at H
                                exact absurd H (by simp)
                              ·rw [if_neg c34] at H
                               exact absurd H (by simp)
                             ·rw [if_neg c31] at H
                              exact absurd H (by simp)
                            ·rw [if_neg c30] at H
                             exact absurd H (by simp)
                           ·rw [if_neg c29] at H
                            exact absurd H (by simp)
                          ·rw [if_neg c28] at H
                           exact absurd H (by simp)
                         ·rw [if_neg c27] at H
                          exact absurd H (by simp)
                        ·rw [if_neg c26] at H
                         exact absurd H (by simp)
                       ·rw [if_neg c25] at H
                        have c25b0 : decide (x15_4 < ((rd_L7 l1 0).length : Int)) = false := decide_eq_false c25
                        clear c25
                        have H' := Aside0.mk H
                        clear H
                        go_wp2
                        go_roundg k4
                        case measure => have := HK1.out; have := HK2.out; have := HK3.out; have := HK4.out; omega
                        case rel => exact ⟨x7_4, wrap64 (x14_3 + 1), by simp, H', ⟨by have := HK1.out; have := HK2.out; have := HK3.out; have := HK4.out; omega⟩, HO_7, HO_12, BK179, HB⟩
                    ·rw [if_neg f24] at H
                     exact absurd H (by simp)
                   ·rw [if_neg e24] at H
                    exact absurd H (by simp)
                  ·rw [if_neg c24] at H
                   have c24b0 : decide (x14_3 < ((rd_L7 l1 0).length : Int)) = false := decide_eq_false c24
                   clear c24
                   have H' := Aside0.mk H
                   clear H
                   go_wp2
                   go_roundg k3
                   case measure => have := HK1.out; have := HK2.out; have := HK3.out; omega
                   case rel => exact ⟨(x7_3), (wrap64 (x11_2 + 1)), (by first | rfl | (simp; done) | (simp [*]; done)), H', ⟨by have := HK1.out; have := HK2.out; have := HK3.out; omega⟩, ⟨zS⟩, ⟨zK⟩, ⟨zB⟩⟩
               ·replace c21 := Bool.eq_false_iff.mpr c21
                subst c21
                have H1 : (some (([] : List (List (S27))), false)) = some (r1, r2) := by rw [if_neg (show ¬ (false = true) by decide)] at H; exact H
                clear H
                have H := H1
                clear H1
                simp only [Option.some.injEq, Prod.mk.injEq] at H
                obtain ⟨rfl, rfl⟩ := H
                have hcz92_0 : wr.cell? ⟨gb179, 0, none⟩ = some (.int .i64 a0_0) := zE BK179
                have hcz92_1 : wr.cell? ⟨gb179, 1, none⟩ = some (.int .i64 a0_1) := zE BK179
                have hcz92_2 : wr.cell? ⟨gb179, 2, none⟩ = some (.slice A0_2 l0_2.length c0_2) := zE BK179
                have hfz92_0 := blk_frozen BK179.out 0
                have hfz92_1 := blk_frozen BK179.out 1
                have hfz92_2 := blk_frozen BK179.out 2
                have p195 : 0 ≤ (x11_2 : Int) := zD
                have q195 : x11_2 < (l0_2.length : Int) := zD
                obtain ⟨ad195, e195, hx195_0, hx195_1, hx195_2⟩ := at_T89 HR0_2.out x11_2 p195 q195
                cases e195
                replace hx195_0 := zH HB hx195_0
                replace hx195_1 := zH HB hx195_1
                replace hx195_2 := zH HB hx195_2
                replace p195 := eq_true p195
                replace q195 := eq_true q195
                go_wp2_with (first | ((with_reducible refine gate_callee (f := 107) rfl ?_); refine goesL_ (some 60) rfl rfl Try.func107 (by kernel_rfl) rfl #[.slice (some ad180) l1.length c1, .string ((rd_T89 l0_2 x11_2).f0)] rfl zM ?_; (with_reducible refine (spec_l08Product.calls k2 _ _ l1 ((rd_T89 l0_2 x11_2).f0) t196 false _ ?side1 ?side2 A20.out).mono ?_); (case side1 => repeat (first | exact (Kd.C_below HR1.out HB.out) | (with_reducible refine Kd.C_alloc ?_ _) | (with_reducible refine Kd.C_drewN ?_ _) | (with_reducible refine Kd.C_drew ?_))); (case side2 => exact HC1.out); rintro e w93 ⟨v198, rfl, ho0, hb⟩; refine ⟨_, rfl, ?_⟩; have n0_ := Aside0.mk (Kd.S_below zS hb); have n1_ := Aside0.mk (Kd.S_lower ho0 (below_size zB)); have n2_ := Aside0.mk (blk_below (g := gb179) (o := .cells #[.int .i64 a0_0, .int .i64 a0_1, .slice (some ad195) l0_2.length c0_2] 32 (0, 0)) zK hb); have n3_ := Aside0.mk (below_step zB hb); clear HO_7; clear BK179; clear HB; have HO_7 := n0_; have HO199 := n1_; have BK179 := n2_; have HB := n3_; clear n0_ n1_ n2_ n3_; (try clear hb); (try clear hb2); (try clear hk); (try clear hi); (try clear ho0)))
                go_ret2
                exact ⟨_, by first | rfl | (simp [errW_none, errW_some] <;> rfl) | (simp [*, errW_none, errW_some] <;> rfl), by first | exact Kd.S_nil _ _ _ _ _ | exact Kd.N_nil _ _ _ _ _ | exact Kd.V_nil _ _ _ _ _ | exact Kd.Q_nil _ _ _ _ _ | exact Kd.R_nil _ _ _ _ _, zB⟩
              ·rw [if_neg c19] at H
               exact absurd H (by simp)
             ·rw [if_neg c18] at H
              have c18b0 : decide (x11_2 < (l0_2.length : Int)) = false := decide_eq_false c18
              clear c18
              simp only [Option.some.injEq, Prod.mk.injEq] at H
              obtain ⟨rfl, rfl⟩ := H
              have hcz94_0 : wr.cell? ⟨gb179, 0, none⟩ = some (.int .i64 a0_0) := zE BK179
              have hcz94_1 : wr.cell? ⟨gb179, 1, none⟩ = some (.int .i64 a0_1) := zE BK179
              have hcz94_2 : wr.cell? ⟨gb179, 2, none⟩ = some (.slice A0_2 l0_2.length c0_2) := zE BK179
              have hfz94_0 := blk_frozen BK179.out 0
              have hfz94_1 := blk_frozen BK179.out 1
              have hfz94_2 := blk_frozen BK179.out 2
              go_wp2
              go_ret2
              exact ⟨_, by first | rfl | (simp [errW_none, errW_some] <;> rfl) | (simp [*, errW_none, errW_some] <;> rfl), zS, zB⟩
  · rw [if_neg c3] at H
    exact absurd H (by simp)
end Go.Proofs.Ytcklefgkbddlhaa.P
