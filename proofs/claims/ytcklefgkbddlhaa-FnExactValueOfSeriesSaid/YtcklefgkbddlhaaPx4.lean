/- What a call of each Go function named below comes to is what the plain function beside it says. -/
import Derived.Test.YtcklefgkbddlhaaPx0
import Derived.Test.YtcklefgkbddlhaaPx3
namespace Go.Proofs.Ytcklefgkbddlhaa.P
open Go.RowKit Go.Proofs.YtcklefgkbddlhaaW.PrintWords Go.Proofs.YtcklefgkbddlhaaW.PrintLast Go.Proofs.YtcklefgkbddlhaaW.PrintMore
attribute [local go_sem] max2_int min2_int max_two min_two max_three min_three max_four min_four
set_option linter.unusedVariables false
set_option linter.unusedSimpArgs false
/-! ### spec_l01Is: function 52 -/
mutual
def spec_l01Is.l0 : Nat → Int → Int → Int → List (S89) → Option (Bool)
  | 0, _, _, _, _ => none
  | k + 1, x3, x151000, x151001, x151002 => if x3 < (x151002.length : Int) then (if 0 ≤ x3 then (if (((rd_T89 x151002 x3).f0).size : Int) > x151001 then (spec_l01Is.j1 k x3 true x151000 x151001 x151002 ((rd_T89 x151002 x3).f0) ((rd_T89 x151002 x3).f1.f0) ((rd_T89 x151002 x3).f1.f1)) else ((spec_l01Word.f k x151000 ((rd_T89 x151002 x3).f0)).bind fun t154 => (if t154 = true then ((spec_l01IsFrac.f k ((rd_T89 x151002 x3).f1.f0) ((rd_T89 x151002 x3).f1.f1)).bind fun t155 => (if t155 = true then ((spec_l01Zero.f ((rd_T89 x151002 x3).f1.f0) ((rd_T89 x151002 x3).f1.f1)).bind fun t156 => (spec_l01Is.j1 k x3 t156 x151000 x151001 x151002 ((rd_T89 x151002 x3).f0) ((rd_T89 x151002 x3).f1.f0) ((rd_T89 x151002 x3).f1.f1))) else (spec_l01Is.j1 k x3 true x151000 x151001 x151002 ((rd_T89 x151002 x3).f0) ((rd_T89 x151002 x3).f1.f0) ((rd_T89 x151002 x3).f1.f1)))) else (spec_l01Is.j1 k x3 true x151000 x151001 x151002 ((rd_T89 x151002 x3).f0) ((rd_T89 x151002 x3).f1.f0) ((rd_T89 x151002 x3).f1.f1))))) else (none)) else (some true)
def spec_l01Is.j1 : Nat → Int → Bool → Int → Int → List (S89) → ByteArray → Int → Int → Option (Bool)
  | 0, _, _, _, _, _, _, _, _ => none
  | k + 1, x3, x47, x151000, x151001, x151002, x154000, x154001, x154002 => if x47 = true then (some false) else (if x3 > 0 then (if 0 ≤ (wrap64 (x3 - 1)) then (if (wrap64 (x3 - 1)) < (x151002.length : Int) then ((spec_l01Before.f ((rd_T89 x151002 (wrap64 (x3 - 1))).f0) x154000).bind fun t158 => (if t158 = true then (spec_l01Is.l0 k (wrap64 (x3 + 1)) x151000 x151001 x151002) else (some false))) else (none)) else (none)) else (spec_l01Is.l0 k (wrap64 (x3 + 1)) x151000 x151001 x151002))
end
def spec_l01Is.f (k : Nat) (a0_0 : Int) (a0_1 : Int) (l0_2 : List (S89)) : Option (Bool) := (spec_l01Sizes.f a0_0 a0_1).bind fun t151 => (if t151 = true then (spec_l01Is.l0 k 0 a0_0 a0_1 l0_2) else (some false))
theorem spec_l01Is.mono_l : ∀ k, (∀ y0 y1 y2 y3, LeO (spec_l01Is.l0 k y0 y1 y2 y3) (spec_l01Is.l0 (k + 1) y0 y1 y2 y3)) ∧ (∀ y0 y1 y2 y3 y4 y5 y6 y7, LeO (spec_l01Is.j1 k y0 y1 y2 y3 y4 y5 y6 y7) (spec_l01Is.j1 (k + 1) y0 y1 y2 y3 y4 y5 y6 y7))
  | 0 => ⟨fun _ _ _ _ r h => by simp [spec_l01Is.l0] at h, fun _ _ _ _ _ _ _ _ r h => by simp [spec_l01Is.j1] at h⟩
  | k + 1 => by
    obtain ⟨ih0, ih1⟩ := spec_l01Is.mono_l k
    refine ⟨?_, ?_⟩
    · intro y0 y1 y2 y3
      unfold spec_l01Is.l0
      repeat' first
      | (with_reducible exact ih0 _ _ _ _)
      | (with_reducible exact ih1 _ _ _ _ _ _ _ _)
      | (with_reducible exact spec_l01IsFrac.mono _ _ _)
      | (with_reducible exact spec_l01Word.mono _ _ _)
      | (with_reducible exact LeO.refl _)
      | (with_reducible exact LeO.none _)
      | (with_reducible refine LeO.ite ?_ ?_)
      | (with_reducible refine LeO.bind ?_ (fun _ => ?_))
    · intro y0 y1 y2 y3 y4 y5 y6 y7
      unfold spec_l01Is.j1
      repeat' first
      | (with_reducible exact ih0 _ _ _ _)
      | (with_reducible exact ih1 _ _ _ _ _ _ _ _)
      | (with_reducible exact spec_l01IsFrac.mono _ _ _)
      | (with_reducible exact spec_l01Word.mono _ _ _)
      | (with_reducible exact LeO.refl _)
      | (with_reducible exact LeO.none _)
      | (with_reducible refine LeO.ite ?_ ?_)
      | (with_reducible refine LeO.bind ?_ (fun _ => ?_))
theorem spec_l01Is.mono : ∀ a0 a1 a2 k, LeO (spec_l01Is.f k a0 a1 a2) (spec_l01Is.f (k + 1) a0 a1 a2) := by
  intro a0 a1 a2 k
  obtain ⟨ih0, ih1⟩ := spec_l01Is.mono_l k
  unfold spec_l01Is.f
  repeat' first
      | (with_reducible exact ih0 _ _ _ _)
      | (with_reducible exact ih1 _ _ _ _ _ _ _ _)
      | (with_reducible exact spec_l01IsFrac.mono _ _ _)
      | (with_reducible exact spec_l01Word.mono _ _ _)
      | (with_reducible exact LeO.refl _)
      | (with_reducible exact LeO.none _)
      | (with_reducible refine LeO.ite ?_ ?_)
      | (with_reducible refine LeO.bind ?_ (fun _ => ?_))
set_option maxHeartbeats 8000000 in
set_option maxRecDepth 100000 in
theorem spec_l01Is.calls (k : Nat) (a0_0 : Int) (a0_1 : Int) (A0_2 : Option Addr) (c0_2 : Nat) (l0_2 : List (S89)) (r : Bool) (w : World) (hr0_2 : Kd.C k89 w A0_2 l0_2.length l0_2) (hc0_2 : l0_2.length ≤ c0_2) (h : spec_l01Is.f k a0_0 a0_1 l0_2 = some r) :
    Calls Try.prog 52 #[.agg #[.int .i64 a0_0, .int .i64 a0_1, .slice A0_2 l0_2.length c0_2]] w fun e w' => e = .returned (.bool r) ∧ Below w.heap.size w w' := by
  have hu32 := Try.underlying32
  have hu89 := Try.underlying89
  have hu27 := Try.underlying27
  have HR0_2 := Aside0.mk hr0_2
  have HC0_2 := Aside0.mk hc0_2
  clear hr0_2 hc0_2
  have HB := Aside0.mk (Below.refl w.heap.size w)
  have H : ((spec_l01Sizes.f a0_0 a0_1).bind fun t151 => (if t151 = true then (spec_l01Is.l0 k 0 a0_0 a0_1 l0_2) else (some false))) = some r := h
  clear h
  replace H := Option.bind_eq_some_iff.mp H
  obtain ⟨t151, A20, H⟩ := H
  replace H : (if t151 = true then (spec_l01Is.l0 k 0 a0_0 a0_1 l0_2) else (some false)) = some r := H
  have A2 := Aside0.mk A20
  clear A20
  by_cases c3 : t151 = true
  · subst c3
    have H1 : (spec_l01Is.l0 k 0 a0_0 a0_1 l0_2) = some r := by rw [if_pos rfl] at H; exact H
    clear H
    have H := H1
    clear H1
    have H' := Aside0.mk H
    clear H
    go_enter Try.func52, Try.ntmps52
    go_wp2_with (first | ((with_reducible refine gate_dst (N := 1) rfl ?_); refine box_event ?hg (N := 1) ?hd (cs := #[.int .i64 a0_0, .int .i64 a0_1, .slice A0_2 l0_2.length c0_2]) (t := 32) ?hr ?_; (case hd => rfl); (case hg => rfl); (case hr => first | (go_simp; done) | (go_simp; rfl)); intro gb150 hg w4 hbox hb; have n0_ := Aside0.mk (below_step zB hb); have n1_ := Aside0.mk (hbox); have n2_ := Aside0.mk (zG : w.heap.size ≤ gb150); have n3_ := Aside0.mk (zG : w.heap.size ≤ gb150); clear HB; have HB := n0_; have BK150 := n1_; have GW150 := n2_; have GE150 := n3_; clear n0_ n1_ n2_ n3_; clear hb hbox hg; have hcz5_0 : w4.cell? ⟨gb150, 0, none⟩ = some (.int .i64 a0_0) := zE BK150; have hcz5_1 : w4.cell? ⟨gb150, 1, none⟩ = some (.int .i64 a0_1) := zE BK150; have hcz5_2 : w4.cell? ⟨gb150, 2, none⟩ = some (.slice A0_2 l0_2.length c0_2) := zE BK150; have hfz5_0 := blk_frozen BK150.out 0; have hfz5_1 := blk_frozen BK150.out 1; have hfz5_2 := blk_frozen BK150.out 2) | (go_at_call 98; (with_reducible refine (spec_l01Sizes.calls a0_0 a0_1 true _ A2.out).mono ?_); rintro e w' ⟨rfl, ⟨nd, rfl⟩⟩; (try first | exact ⟨rfl, _, World.drewN_drewN _ _ _⟩ | exact ⟨rfl, _, Eq.trans (World.drewN_drewN _ _ _) (congrArg (World.drewN _) (Nat.add_assoc _ _ _))⟩)))
    repeat (go_quiet (first | ((with_reducible refine gate_dst (N := 1) rfl ?_); refine box_event ?hg (N := 1) ?hd (cs := #[.int .i64 a0_0, .int .i64 a0_1, .slice A0_2 l0_2.length c0_2]) (t := 32) ?hr ?_; (case hd => rfl); (case hg => rfl); (case hr => first | (go_simp; done) | (go_simp; rfl)); intro gb150 hg w4 hbox hb; have n0_ := Aside0.mk (below_step zB hb); have n1_ := Aside0.mk (hbox); have n2_ := Aside0.mk (zG : w.heap.size ≤ gb150); have n3_ := Aside0.mk (zG : w.heap.size ≤ gb150); clear HB; have HB := n0_; have BK150 := n1_; have GW150 := n2_; have GE150 := n3_; clear n0_ n1_ n2_ n3_; clear hb hbox hg; have hcz5_0 : w4.cell? ⟨gb150, 0, none⟩ = some (.int .i64 a0_0) := zE BK150; have hcz5_1 : w4.cell? ⟨gb150, 1, none⟩ = some (.int .i64 a0_1) := zE BK150; have hcz5_2 : w4.cell? ⟨gb150, 2, none⟩ = some (.slice A0_2 l0_2.length c0_2) := zE BK150; have hfz5_0 := blk_frozen BK150.out 0; have hfz5_1 := blk_frozen BK150.out 1; have hfz5_2 := blk_frozen BK150.out 2) | (go_at_call 98; (with_reducible refine (spec_l01Sizes.calls a0_0 a0_1 true _ A2.out).mono ?_); rintro e w' ⟨rfl, ⟨nd, rfl⟩⟩; (try first | exact ⟨rfl, _, World.drewN_drewN _ _ _⟩ | exact ⟨rfl, _, Eq.trans (World.drewN_drewN _ _ _) (congrArg (World.drewN _) (Nat.add_assoc _ _ _))⟩))); try go_wp2_with (first | ((with_reducible refine gate_dst (N := 1) rfl ?_); refine box_event ?hg (N := 1) ?hd (cs := #[.int .i64 a0_0, .int .i64 a0_1, .slice A0_2 l0_2.length c0_2]) (t := 32) ?hr ?_; (case hd => rfl); (case hg => rfl); (case hr => first | (go_simp; done) | (go_simp; rfl)); intro gb150 hg w4 hbox hb; have n0_ := Aside0.mk (below_step zB hb); have n1_ := Aside0.mk (hbox); have n2_ := Aside0.mk (zG : w.heap.size ≤ gb150); have n3_ := Aside0.mk (zG : w.heap.size ≤ gb150); clear HB; have HB := n0_; have BK150 := n1_; have GW150 := n2_; have GE150 := n3_; clear n0_ n1_ n2_ n3_; clear hb hbox hg; have hcz5_0 : w4.cell? ⟨gb150, 0, none⟩ = some (.int .i64 a0_0) := zE BK150; have hcz5_1 : w4.cell? ⟨gb150, 1, none⟩ = some (.int .i64 a0_1) := zE BK150; have hcz5_2 : w4.cell? ⟨gb150, 2, none⟩ = some (.slice A0_2 l0_2.length c0_2) := zE BK150; have hfz5_0 := blk_frozen BK150.out 0; have hfz5_1 := blk_frozen BK150.out 1; have hfz5_2 := blk_frozen BK150.out 2) | (go_at_call 98; (with_reducible refine (spec_l01Sizes.calls a0_0 a0_1 true _ A2.out).mono ?_); rintro e w' ⟨rfl, ⟨nd, rfl⟩⟩; (try first | exact ⟨rfl, _, World.drewN_drewN _ _ _⟩ | exact ⟨rfl, _, Eq.trans (World.drewN_drewN _ _ _) (congrArg (World.drewN _) (Nat.add_assoc _ _ _))⟩))))
    go_loopg [3] k (fun kq v3 w' => ∃ (x3_1 : Int), v3 = .int .i64 x3_1 ∧ Aside0 (spec_l01Is.l0 kq x3_1 a0_0 a0_1 l0_2 = some r) ∧ Aside0 (kq ≤ k) ∧ Aside0 (w'.heap[gb150]? = some (.cells #[.int .i64 a0_0, .int .i64 a0_1, (.slice A0_2 l0_2.length c0_2)] 32 (0, 0))) ∧ Aside0 (Below w.heap.size w w'))
    case atStart => exact ⟨(0), (by first | rfl | (simp; done) | (simp [*]; done)), H', ⟨Nat.le_refl _⟩, ⟨zK⟩, ⟨zB⟩⟩
    case round =>
      clear H'
      obtain ⟨x3_1, rfl, HA, HK1, BK150, HB⟩ := hrel
      cases gk with
      | zero => exact absurd HA.out (by simp [spec_l01Is.l0])
      | succ k1 =>
        have H := HA.out
        clear HA
        simp only [spec_l01Is.l0] at H
        by_cases c6 : x3_1 < (l0_2.length : Int)
        · rw [if_pos c6] at H
          have c6b0 : decide (x3_1 < (l0_2.length : Int)) = true := decide_eq_true c6
          clear c6
          by_cases c7 : 0 ≤ x3_1
          · rw [if_pos c7] at H
            have c7b0 : decide (0 ≤ x3_1) = true := decide_eq_true c7
            clear c7
            have HC8 := Aside0.mk H
            clear H
            have hcz9_0 : wr.cell? ⟨gb150, 0, none⟩ = some (.int .i64 a0_0) := zE BK150
            have hcz9_1 : wr.cell? ⟨gb150, 1, none⟩ = some (.int .i64 a0_1) := zE BK150
            have hcz9_2 : wr.cell? ⟨gb150, 2, none⟩ = some (.slice A0_2 l0_2.length c0_2) := zE BK150
            have hfz9_0 := blk_frozen BK150.out 0
            have hfz9_1 := blk_frozen BK150.out 1
            have hfz9_2 := blk_frozen BK150.out 2
            have p152 : 0 ≤ (x3_1 : Int) := zD
            have q152 : x3_1 < (l0_2.length : Int) := zD
            obtain ⟨ad152, e152, hx152_0, hx152_1, hx152_2⟩ := at_T89 HR0_2.out x3_1 p152 q152
            cases e152
            replace hx152_0 := zH HB hx152_0
            replace hx152_1 := zH HB hx152_1
            replace hx152_2 := zH HB hx152_2
            replace p152 := eq_true p152
            replace q152 := eq_true q152
            go_upto_region 7 with (first | ((with_reducible refine gate_dst (N := 4) rfl ?_); refine box_event ?hg (N := 4) ?hd (cs := #[.string (⟨#[]⟩ : ByteArray), .int .i64 0, .int .i64 0]) (t := 89) ?hr ?_; (case hd => rfl); (case hg => rfl); (case hr => first | (go_simp; done) | (go_simp; rfl)); intro gb153 hg w10 hbox hb; have n0_ := Aside0.mk (blk_below (g := gb150) (o := .cells #[.int .i64 a0_0, .int .i64 a0_1, .slice (some ad152) l0_2.length c0_2] 32 (0, 0)) zK hb); have n1_ := Aside0.mk (below_step zB hb); have n2_ := Aside0.mk (hbox); have n3_ := Aside0.mk (zG : w.heap.size ≤ gb153); have n4_ := Aside0.mk (zG : w.heap.size ≤ gb153); have n5_ := Aside0.mk ((by rw [hg]; exact Nat.ne_of_lt (blk_lt (g := gb150) (o := .cells #[.int .i64 a0_0, .int .i64 a0_1, .slice (some ad152) l0_2.length c0_2] 32 (0, 0)) zK) : gb150 ≠ gb153)); have n6_ := Aside0.mk ((by rw [hg]; exact Nat.ne_of_gt (blk_lt (g := gb150) (o := .cells #[.int .i64 a0_0, .int .i64 a0_1, .slice (some ad152) l0_2.length c0_2] 32 (0, 0)) zK) : gb153 ≠ gb150)); clear BK150; clear HB; have BK150 := n0_; have HB := n1_; have BK153 := n2_; have GW153 := n3_; have GE153 := n4_; have NB150_153 := n5_; have NB153_150 := n6_; clear n0_ n1_ n2_ n3_ n4_ n5_ n6_; clear hb hbox hg; have hnb11 := NB153_150.out; have hnc11 := NB150_153.out; have hcz12_0 : w10.cell? ⟨gb153, 0, none⟩ = some (.string (⟨#[]⟩ : ByteArray)) := zE BK153; have hcz12_1 : w10.cell? ⟨gb153, 1, none⟩ = some (.int .i64 0) := zE BK153; have hcz12_2 : w10.cell? ⟨gb153, 2, none⟩ = some (.int .i64 0) := zE BK153; have hfz12_0 := blk_frozen BK153.out 0; have hfz12_1 := blk_frozen BK153.out 1; have hfz12_2 := blk_frozen BK153.out 2))
            repeat (go_quiet (first | ((with_reducible refine gate_dst (N := 4) rfl ?_); refine box_event ?hg (N := 4) ?hd (cs := #[.string (⟨#[]⟩ : ByteArray), .int .i64 0, .int .i64 0]) (t := 89) ?hr ?_; (case hd => rfl); (case hg => rfl); (case hr => first | (go_simp; done) | (go_simp; rfl)); intro gb153 hg w10 hbox hb; have n0_ := Aside0.mk (blk_below (g := gb150) (o := .cells #[.int .i64 a0_0, .int .i64 a0_1, .slice (some ad152) l0_2.length c0_2] 32 (0, 0)) zK hb); have n1_ := Aside0.mk (below_step zB hb); have n2_ := Aside0.mk (hbox); have n3_ := Aside0.mk (zG : w.heap.size ≤ gb153); have n4_ := Aside0.mk (zG : w.heap.size ≤ gb153); have n5_ := Aside0.mk ((by rw [hg]; exact Nat.ne_of_lt (blk_lt (g := gb150) (o := .cells #[.int .i64 a0_0, .int .i64 a0_1, .slice (some ad152) l0_2.length c0_2] 32 (0, 0)) zK) : gb150 ≠ gb153)); have n6_ := Aside0.mk ((by rw [hg]; exact Nat.ne_of_gt (blk_lt (g := gb150) (o := .cells #[.int .i64 a0_0, .int .i64 a0_1, .slice (some ad152) l0_2.length c0_2] 32 (0, 0)) zK) : gb153 ≠ gb150)); clear BK150; clear HB; have BK150 := n0_; have HB := n1_; have BK153 := n2_; have GW153 := n3_; have GE153 := n4_; have NB150_153 := n5_; have NB153_150 := n6_; clear n0_ n1_ n2_ n3_ n4_ n5_ n6_; clear hb hbox hg; have hnb11 := NB153_150.out; have hnc11 := NB150_153.out; have hcz12_0 : w10.cell? ⟨gb153, 0, none⟩ = some (.string (⟨#[]⟩ : ByteArray)) := zE BK153; have hcz12_1 : w10.cell? ⟨gb153, 1, none⟩ = some (.int .i64 0) := zE BK153; have hcz12_2 : w10.cell? ⟨gb153, 2, none⟩ = some (.int .i64 0) := zE BK153; have hfz12_0 := blk_frozen BK153.out 0; have hfz12_1 := blk_frozen BK153.out 1; have hfz12_2 := blk_frozen BK153.out 2)); go_upto_region 7 with (first | ((with_reducible refine gate_dst (N := 4) rfl ?_); refine box_event ?hg (N := 4) ?hd (cs := #[.string (⟨#[]⟩ : ByteArray), .int .i64 0, .int .i64 0]) (t := 89) ?hr ?_; (case hd => rfl); (case hg => rfl); (case hr => first | (go_simp; done) | (go_simp; rfl)); intro gb153 hg w10 hbox hb; have n0_ := Aside0.mk (blk_below (g := gb150) (o := .cells #[.int .i64 a0_0, .int .i64 a0_1, .slice (some ad152) l0_2.length c0_2] 32 (0, 0)) zK hb); have n1_ := Aside0.mk (below_step zB hb); have n2_ := Aside0.mk (hbox); have n3_ := Aside0.mk (zG : w.heap.size ≤ gb153); have n4_ := Aside0.mk (zG : w.heap.size ≤ gb153); have n5_ := Aside0.mk ((by rw [hg]; exact Nat.ne_of_lt (blk_lt (g := gb150) (o := .cells #[.int .i64 a0_0, .int .i64 a0_1, .slice (some ad152) l0_2.length c0_2] 32 (0, 0)) zK) : gb150 ≠ gb153)); have n6_ := Aside0.mk ((by rw [hg]; exact Nat.ne_of_gt (blk_lt (g := gb150) (o := .cells #[.int .i64 a0_0, .int .i64 a0_1, .slice (some ad152) l0_2.length c0_2] 32 (0, 0)) zK) : gb153 ≠ gb150)); clear BK150; clear HB; have BK150 := n0_; have HB := n1_; have BK153 := n2_; have GW153 := n3_; have GE153 := n4_; have NB150_153 := n5_; have NB153_150 := n6_; clear n0_ n1_ n2_ n3_ n4_ n5_ n6_; clear hb hbox hg; have hnb11 := NB153_150.out; have hnc11 := NB150_153.out; have hcz12_0 : w10.cell? ⟨gb153, 0, none⟩ = some (.string (⟨#[]⟩ : ByteArray)) := zE BK153; have hcz12_1 : w10.cell? ⟨gb153, 1, none⟩ = some (.int .i64 0) := zE BK153; have hcz12_2 : w10.cell? ⟨gb153, 2, none⟩ = some (.int .i64 0) := zE BK153; have hfz12_0 := blk_frozen BK153.out 0; have hfz12_1 := blk_frozen BK153.out 1; have hfz12_2 := blk_frozen BK153.out 2)))
            (try simp only [Act.put, List.setIfInBounds_toArray, List.set_cons_zero, List.set_cons_succ])
            go_cut [47] (fun v47 wc => ∃ (kq : Nat) (x47_7 : Bool), v47 = .bool x47_7 ∧ Aside0 (spec_l01Is.j1 kq x3_1 x47_7 a0_0 a0_1 l0_2 ((rd_T89 l0_2 x3_1).f0) ((rd_T89 l0_2 x3_1).f1.f0) ((rd_T89 l0_2 x3_1).f1.f1) = some r) ∧ Aside0 (kq ≤ k1) ∧ Aside0 (wc.heap[gb150]? = some (.cells #[.int .i64 a0_0, .int .i64 a0_1, (.slice (some ad152) l0_2.length c0_2)] 32 (0, 0))) ∧ Aside0 (wc.heap[gb153]? = some (.cells #[.string ((rd_T89 l0_2 x3_1).f0), .int .i64 ((rd_T89 l0_2 x3_1).f1.f0), .int .i64 ((rd_T89 l0_2 x3_1).f1.f1)] 89 (0, 0))) ∧ Aside0 (Below w.heap.size w wc))
            case first =>
             have H := HC8.out
             clear HC8
             by_cases c13 : (((rd_T89 l0_2 x3_1).f0).size : Int) > a0_1
             ·rw [if_pos c13] at H
              have c13b0 : decide (a0_1 < (((rd_T89 l0_2 x3_1).f0).size : Int)) = true := decide_eq_true c13
              clear c13
              (first | rw [c13b0] | (simp only [i64_w, i32_w]; rw [c13b0]) | skip)
              have H' := Aside0.mk H
              clear H
              have hnb14 := NB153_150.out
              have hnc14 := NB150_153.out
              have hcz15_0 : w10.cell? ⟨gb153, 0, none⟩ = some (.string (⟨#[]⟩ : ByteArray)) := zE BK153
              have hcz15_1 : w10.cell? ⟨gb153, 1, none⟩ = some (.int .i64 0) := zE BK153
              have hcz15_2 : w10.cell? ⟨gb153, 2, none⟩ = some (.int .i64 0) := zE BK153
              have hfz15_0 := blk_frozen BK153.out 0
              have hfz15_1 := blk_frozen BK153.out 1
              have hfz15_2 := blk_frozen BK153.out 2
              have hcz16_0 : w10.cell? ⟨gb150, 0, none⟩ = some (.int .i64 a0_0) := zE BK150
              have hcz16_1 : w10.cell? ⟨gb150, 1, none⟩ = some (.int .i64 a0_1) := zE BK150
              have hcz16_2 : w10.cell? ⟨gb150, 2, none⟩ = some (.slice (some ad152) l0_2.length c0_2) := zE BK150
              have hfz16_0 := blk_frozen BK150.out 0
              have hfz16_1 := blk_frozen BK150.out 1
              have hfz16_2 := blk_frozen BK150.out 2
              go_wp2
              repeat (go_quiet (fail); try go_wp2)
              go_meet
              case rel => exact ⟨_, (true), (by first | rfl | (simp; done) | (simp [*]; done)), H', ⟨by have := HK1.out; first | omega | exact Nat.le_refl _⟩, ⟨by (with_reducible repeat (first | refine blk_drewN ?_ _ | refine blk_drew ?_ | refine blk_alloc ?_ _)); refine blk_far ?_ NB150_153.out _; (with_reducible repeat (first | refine blk_drewN ?_ _ | refine blk_drew ?_ | refine blk_alloc ?_ _)); refine blk_far ?_ NB150_153.out _; (with_reducible repeat (first | refine blk_drewN ?_ _ | refine blk_drew ?_ | refine blk_alloc ?_ _)); refine blk_far ?_ NB150_153.out _; (with_reducible repeat (first | refine blk_drewN ?_ _ | refine blk_drew ?_ | refine blk_alloc ?_ _)); exact BK150.out⟩, ⟨by (with_reducible repeat (first | refine blk_drewN ?_ _ | refine blk_drew ?_ | refine blk_alloc ?_ _)); refine blk_put (cs := #[.string ((rd_T89 l0_2 x3_1).f0), .int .i64 ((rd_T89 l0_2 x3_1).f1.f0), .int .i64 0]) ?_ 2 _ rfl; (with_reducible repeat (first | refine blk_drewN ?_ _ | refine blk_drew ?_ | refine blk_alloc ?_ _)); refine blk_put (cs := #[.string ((rd_T89 l0_2 x3_1).f0), .int .i64 0, .int .i64 0]) ?_ 1 _ rfl; (with_reducible repeat (first | refine blk_drewN ?_ _ | refine blk_drew ?_ | refine blk_alloc ?_ _)); refine blk_put (cs := #[.string (⟨#[]⟩ : ByteArray), .int .i64 0, .int .i64 0]) ?_ 0 _ rfl; (with_reducible repeat (first | refine blk_drewN ?_ _ | refine blk_drew ?_ | refine blk_alloc ?_ _)); exact BK153.out⟩, ⟨zB⟩⟩
             ·rw [if_neg c13] at H
              have c13b0 : decide (a0_1 < (((rd_T89 l0_2 x3_1).f0).size : Int)) = false := decide_eq_false c13
              clear c13
              (first | rw [c13b0] | (simp only [i64_w, i32_w]; rw [c13b0]) | skip)
              replace H := Option.bind_eq_some_iff.mp H
              obtain ⟨t154, A170, H⟩ := H
              replace H : (if t154 = true then ((spec_l01IsFrac.f k1 ((rd_T89 l0_2 x3_1).f1.f0) ((rd_T89 l0_2 x3_1).f1.f1)).bind fun t155 => (if t155 = true then ((spec_l01Zero.f ((rd_T89 l0_2 x3_1).f1.f0) ((rd_T89 l0_2 x3_1).f1.f1)).bind fun t156 => (spec_l01Is.j1 k1 x3_1 t156 a0_0 a0_1 l0_2 ((rd_T89 l0_2 x3_1).f0) ((rd_T89 l0_2 x3_1).f1.f0) ((rd_T89 l0_2 x3_1).f1.f1))) else (spec_l01Is.j1 k1 x3_1 true a0_0 a0_1 l0_2 ((rd_T89 l0_2 x3_1).f0) ((rd_T89 l0_2 x3_1).f1.f0) ((rd_T89 l0_2 x3_1).f1.f1)))) else (spec_l01Is.j1 k1 x3_1 true a0_0 a0_1 l0_2 ((rd_T89 l0_2 x3_1).f0) ((rd_T89 l0_2 x3_1).f1.f0) ((rd_T89 l0_2 x3_1).f1.f1))) = some r := H
              have A17 := Aside0.mk A170
              clear A170
              by_cases c18 : t154 = true
              ·subst c18
               have H1 : ((spec_l01IsFrac.f k1 ((rd_T89 l0_2 x3_1).f1.f0) ((rd_T89 l0_2 x3_1).f1.f1)).bind fun t155 => (if t155 = true then ((spec_l01Zero.f ((rd_T89 l0_2 x3_1).f1.f0) ((rd_T89 l0_2 x3_1).f1.f1)).bind fun t156 => (spec_l01Is.j1 k1 x3_1 t156 a0_0 a0_1 l0_2 ((rd_T89 l0_2 x3_1).f0) ((rd_T89 l0_2 x3_1).f1.f0) ((rd_T89 l0_2 x3_1).f1.f1))) else (spec_l01Is.j1 k1 x3_1 true a0_0 a0_1 l0_2 ((rd_T89 l0_2 x3_1).f0) ((rd_T89 l0_2 x3_1).f1.f0) ((rd_T89 l0_2 x3_1).f1.f1)))) = some r := by rw [if_pos rfl] at H; exact H
               clear H
               have H := H1
               clear H1
               replace H := Option.bind_eq_some_iff.mp H
               obtain ⟨t155, A190, H⟩ := H
               replace H : (if t155 = true then ((spec_l01Zero.f ((rd_T89 l0_2 x3_1).f1.f0) ((rd_T89 l0_2 x3_1).f1.f1)).bind fun t156 => (spec_l01Is.j1 k1 x3_1 t156 a0_0 a0_1 l0_2 ((rd_T89 l0_2 x3_1).f0) ((rd_T89 l0_2 x3_1).f1.f0) ((rd_T89 l0_2 x3_1).f1.f1))) else (spec_l01Is.j1 k1 x3_1 true a0_0 a0_1 l0_2 ((rd_T89 l0_2 x3_1).f0) ((rd_T89 l0_2 x3_1).f1.f0) ((rd_T89 l0_2 x3_1).f1.f1))) = some r := H
               have A19 := Aside0.mk A190
               clear A190
               by_cases c20 : t155 = true
               ·subst c20
                have H1 : ((spec_l01Zero.f ((rd_T89 l0_2 x3_1).f1.f0) ((rd_T89 l0_2 x3_1).f1.f1)).bind fun t156 => (spec_l01Is.j1 k1 x3_1 t156 a0_0 a0_1 l0_2 ((rd_T89 l0_2 x3_1).f0) ((rd_T89 l0_2 x3_1).f1.f0) ((rd_T89 l0_2 x3_1).f1.f1))) = some r := by rw [if_pos rfl] at H; exact H
                clear H
                have H := H1
                clear H1
                replace H := Option.bind_eq_some_iff.mp H
                obtain ⟨t156, A210, H⟩ := H
                replace H : (spec_l01Is.j1 k1 x3_1 t156 a0_0 a0_1 l0_2 ((rd_T89 l0_2 x3_1).f0) ((rd_T89 l0_2 x3_1).f1.f0) ((rd_T89 l0_2 x3_1).f1.f1)) = some r := H
                have A21 := Aside0.mk A210
                clear A210
                have H' := Aside0.mk H
                clear H
                have hnb22 := NB153_150.out
                have hnc22 := NB150_153.out
                have hcz23_0 : w10.cell? ⟨gb153, 0, none⟩ = some (.string (⟨#[]⟩ : ByteArray)) := zE BK153
                have hcz23_1 : w10.cell? ⟨gb153, 1, none⟩ = some (.int .i64 0) := zE BK153
                have hcz23_2 : w10.cell? ⟨gb153, 2, none⟩ = some (.int .i64 0) := zE BK153
                have hfz23_0 := blk_frozen BK153.out 0
                have hfz23_1 := blk_frozen BK153.out 1
                have hfz23_2 := blk_frozen BK153.out 2
                have hcz24_0 : w10.cell? ⟨gb150, 0, none⟩ = some (.int .i64 a0_0) := zE BK150
                have hcz24_1 : w10.cell? ⟨gb150, 1, none⟩ = some (.int .i64 a0_1) := zE BK150
                have hcz24_2 : w10.cell? ⟨gb150, 2, none⟩ = some (.slice (some ad152) l0_2.length c0_2) := zE BK150
                have hfz24_0 := blk_frozen BK150.out 0
                have hfz24_1 := blk_frozen BK150.out 1
                have hfz24_2 := blk_frozen BK150.out 2
                go_wp2_with (first | (go_at_call 53; (with_reducible refine (spec_l01Word.calls k1 a0_0 ((rd_T89 l0_2 x3_1).f0) true _ A17.out).mono ?_); rintro e w' ⟨rfl, ⟨nd, rfl⟩⟩; (try first | exact ⟨rfl, _, World.drewN_drewN _ _ _⟩ | exact ⟨rfl, _, Eq.trans (World.drewN_drewN _ _ _) (congrArg (World.drewN _) (Nat.add_assoc _ _ _))⟩)) | (go_at_call 103; (with_reducible refine (spec_l01IsFrac.calls k1 ((rd_T89 l0_2 x3_1).f1.f0) ((rd_T89 l0_2 x3_1).f1.f1) true _ A19.out).mono ?_); rintro e w25 ⟨rfl, hb⟩; have n0_ := Aside0.mk (blk_below (g := gb150) (o := .cells #[.int .i64 a0_0, .int .i64 a0_1, .slice (some ad152) l0_2.length c0_2] 32 (0, 0)) (by (with_reducible repeat (first | refine blk_drewN ?_ _ | refine blk_drew ?_ | refine blk_alloc ?_ _)); refine blk_far ?_ NB150_153.out _; (with_reducible repeat (first | refine blk_drewN ?_ _ | refine blk_drew ?_ | refine blk_alloc ?_ _)); refine blk_far ?_ NB150_153.out _; (with_reducible repeat (first | refine blk_drewN ?_ _ | refine blk_drew ?_ | refine blk_alloc ?_ _)); refine blk_far ?_ NB150_153.out _; exact zK) hb); have n1_ := Aside0.mk (blk_below (g := gb153) (o := .cells #[.string ((rd_T89 l0_2 x3_1).f0), .int .i64 ((rd_T89 l0_2 x3_1).f1.f0), .int .i64 ((rd_T89 l0_2 x3_1).f1.f1)] 89 (0, 0)) (by (with_reducible repeat (first | refine blk_drewN ?_ _ | refine blk_drew ?_ | refine blk_alloc ?_ _)); refine blk_put (cs := #[.string ((rd_T89 l0_2 x3_1).f0), .int .i64 ((rd_T89 l0_2 x3_1).f1.f0), .int .i64 0]) ?_ 2 _ rfl; (with_reducible repeat (first | refine blk_drewN ?_ _ | refine blk_drew ?_ | refine blk_alloc ?_ _)); refine blk_put (cs := #[.string ((rd_T89 l0_2 x3_1).f0), .int .i64 0, .int .i64 0]) ?_ 1 _ rfl; (with_reducible repeat (first | refine blk_drewN ?_ _ | refine blk_drew ?_ | refine blk_alloc ?_ _)); refine blk_put (cs := #[.string (⟨#[]⟩ : ByteArray), .int .i64 0, .int .i64 0]) ?_ 0 _ rfl; exact zK) hb); have n2_ := Aside0.mk (below_step zB hb); clear BK150; clear BK153; clear HB; have BK150 := n0_; have BK153 := n1_; have HB := n2_; clear n0_ n1_ n2_; (try clear hb); (try clear hb2); (try clear hk); (try clear hi); have hcz26_0 : w25.cell? ⟨gb153, 0, none⟩ = some (.string ((rd_T89 l0_2 x3_1).f0)) := zE BK153; have hcz26_1 : w25.cell? ⟨gb153, 1, none⟩ = some (.int .i64 ((rd_T89 l0_2 x3_1).f1.f0)) := zE BK153; have hcz26_2 : w25.cell? ⟨gb153, 2, none⟩ = some (.int .i64 ((rd_T89 l0_2 x3_1).f1.f1)) := zE BK153; have hfz26_0 := blk_frozen BK153.out 0; have hfz26_1 := blk_frozen BK153.out 1; have hfz26_2 := blk_frozen BK153.out 2) | (go_at_call 104; (with_reducible refine (spec_l01Zero.calls ((rd_T89 l0_2 x3_1).f1.f0) ((rd_T89 l0_2 x3_1).f1.f1) t156 _ A21.out).mono ?_); rintro e w27 ⟨rfl, hb⟩; have n0_ := Aside0.mk (blk_below (g := gb150) (o := .cells #[.int .i64 a0_0, .int .i64 a0_1, .slice (some ad152) l0_2.length c0_2] 32 (0, 0)) zK hb); have n1_ := Aside0.mk (blk_below (g := gb153) (o := .cells #[.string ((rd_T89 l0_2 x3_1).f0), .int .i64 ((rd_T89 l0_2 x3_1).f1.f0), .int .i64 ((rd_T89 l0_2 x3_1).f1.f1)] 89 (0, 0)) zK hb); have n2_ := Aside0.mk (below_step zB hb); clear BK150; clear BK153; clear HB; have BK150 := n0_; have BK153 := n1_; have HB := n2_; clear n0_ n1_ n2_; (try clear hb); (try clear hb2); (try clear hk); (try clear hi)))
                repeat (go_quiet (first | (go_at_call 53; (with_reducible refine (spec_l01Word.calls k1 a0_0 ((rd_T89 l0_2 x3_1).f0) true _ A17.out).mono ?_); rintro e w' ⟨rfl, ⟨nd, rfl⟩⟩; (try first | exact ⟨rfl, _, World.drewN_drewN _ _ _⟩ | exact ⟨rfl, _, Eq.trans (World.drewN_drewN _ _ _) (congrArg (World.drewN _) (Nat.add_assoc _ _ _))⟩)) | (go_at_call 103; (with_reducible refine (spec_l01IsFrac.calls k1 ((rd_T89 l0_2 x3_1).f1.f0) ((rd_T89 l0_2 x3_1).f1.f1) true _ A19.out).mono ?_); rintro e w25 ⟨rfl, hb⟩; have n0_ := Aside0.mk (blk_below (g := gb150) (o := .cells #[.int .i64 a0_0, .int .i64 a0_1, .slice (some ad152) l0_2.length c0_2] 32 (0, 0)) (by (with_reducible repeat (first | refine blk_drewN ?_ _ | refine blk_drew ?_ | refine blk_alloc ?_ _)); refine blk_far ?_ NB150_153.out _; (with_reducible repeat (first | refine blk_drewN ?_ _ | refine blk_drew ?_ | refine blk_alloc ?_ _)); refine blk_far ?_ NB150_153.out _; (with_reducible repeat (first | refine blk_drewN ?_ _ | refine blk_drew ?_ | refine blk_alloc ?_ _)); refine blk_far ?_ NB150_153.out _; exact zK) hb); have n1_ := Aside0.mk (blk_below (g := gb153) (o := .cells #[.string ((rd_T89 l0_2 x3_1).f0), .int .i64 ((rd_T89 l0_2 x3_1).f1.f0), .int .i64 ((rd_T89 l0_2 x3_1).f1.f1)] 89 (0, 0)) (by (with_reducible repeat (first | refine blk_drewN ?_ _ | refine blk_drew ?_ | refine blk_alloc ?_ _)); refine blk_put (cs := #[.string ((rd_T89 l0_2 x3_1).f0), .int .i64 ((rd_T89 l0_2 x3_1).f1.f0), .int .i64 0]) ?_ 2 _ rfl; (with_reducible repeat (first | refine blk_drewN ?_ _ | refine blk_drew ?_ | refine blk_alloc ?_ _)); refine blk_put (cs := #[.string ((rd_T89 l0_2 x3_1).f0), .int .i64 0, .int .i64 0]) ?_ 1 _ rfl; (with_reducible repeat (first | refine blk_drewN ?_ _ | refine blk_drew ?_ | refine blk_alloc ?_ _)); refine blk_put (cs := #[.string (⟨#[]⟩ : ByteArray), .int .i64 0, .int .i64 0]) ?_ 0 _ rfl; exact zK) hb); have n2_ := Aside0.mk (below_step zB hb); clear BK150; clear BK153; clear HB; have BK150 := n0_; have BK153 := n1_; have HB := n2_; clear n0_ n1_ n2_; (try clear hb); (try clear hb2); (try clear hk); (try clear hi); have hcz26_0 : w25.cell? ⟨gb153, 0, none⟩ = some (.string ((rd_T89 l0_2 x3_1).f0)) := zE BK153; have hcz26_1 : w25.cell? ⟨gb153, 1, none⟩ = some (.int .i64 ((rd_T89 l0_2 x3_1).f1.f0)) := zE BK153; have hcz26_2 : w25.cell? ⟨gb153, 2, none⟩ = some (.int .i64 ((rd_T89 l0_2 x3_1).f1.f1)) := zE BK153; have hfz26_0 := blk_frozen BK153.out 0; have hfz26_1 := blk_frozen BK153.out 1; have hfz26_2 := blk_frozen BK153.out 2) | (go_at_call 104; (with_reducible refine (spec_l01Zero.calls ((rd_T89 l0_2 x3_1).f1.f0) ((rd_T89 l0_2 x3_1).f1.f1) t156 _ A21.out).mono ?_); rintro e w27 ⟨rfl, hb⟩; have n0_ := Aside0.mk (blk_below (g := gb150) (o := .cells #[.int .i64 a0_0, .int .i64 a0_1, .slice (some ad152) l0_2.length c0_2] 32 (0, 0)) zK hb); have n1_ := Aside0.mk (blk_below (g := gb153) (o := .cells #[.string ((rd_T89 l0_2 x3_1).f0), .int .i64 ((rd_T89 l0_2 x3_1).f1.f0), .int .i64 ((rd_T89 l0_2 x3_1).f1.f1)] 89 (0, 0)) zK hb); have n2_ := Aside0.mk (below_step zB hb); clear BK150; clear BK153; clear HB; have BK150 := n0_; have BK153 := n1_; have HB := n2_; clear n0_ n1_ n2_; (try clear hb); (try clear hb2); (try clear hk); (try clear hi))); try go_wp2_with (first | (go_at_call 53; (with_reducible refine (spec_l01Word.calls k1 a0_0 ((rd_T89 l0_2 x3_1).f0) true _ A17.out).mono ?_); rintro e w' ⟨rfl, ⟨nd, rfl⟩⟩; (try first | exact ⟨rfl, _, World.drewN_drewN _ _ _⟩ | exact ⟨rfl, _, Eq.trans (World.drewN_drewN _ _ _) (congrArg (World.drewN _) (Nat.add_assoc _ _ _))⟩)) | (go_at_call 103; (with_reducible refine (spec_l01IsFrac.calls k1 ((rd_T89 l0_2 x3_1).f1.f0) ((rd_T89 l0_2 x3_1).f1.f1) true _ A19.out).mono ?_); rintro e w25 ⟨rfl, hb⟩; have n0_ := Aside0.mk (blk_below (g := gb150) (o := .cells #[.int .i64 a0_0, .int .i64 a0_1, .slice (some ad152) l0_2.length c0_2] 32 (0, 0)) (by (with_reducible repeat (first | refine blk_drewN ?_ _ | refine blk_drew ?_ | refine blk_alloc ?_ _)); refine blk_far ?_ NB150_153.out _; (with_reducible repeat (first | refine blk_drewN ?_ _ | refine blk_drew ?_ | refine blk_alloc ?_ _)); refine blk_far ?_ NB150_153.out _; (with_reducible repeat (first | refine blk_drewN ?_ _ | refine blk_drew ?_ | refine blk_alloc ?_ _)); refine blk_far ?_ NB150_153.out _; exact zK) hb); have n1_ := Aside0.mk (blk_below (g := gb153) (o := .cells #[.string ((rd_T89 l0_2 x3_1).f0), .int .i64 ((rd_T89 l0_2 x3_1).f1.f0), .int .i64 ((rd_T89 l0_2 x3_1).f1.f1)] 89 (0, 0)) (by (with_reducible repeat (first | refine blk_drewN ?_ _ | refine blk_drew ?_ | refine blk_alloc ?_ _)); refine blk_put (cs := #[.string ((rd_T89 l0_2 x3_1).f0), .int .i64 ((rd_T89 l0_2 x3_1).f1.f0), .int .i64 0]) ?_ 2 _ rfl; (with_reducible repeat (first | refine blk_drewN ?_ _ | refine blk_drew ?_ | refine blk_alloc ?_ _)); refine blk_put (cs := #[.string ((rd_T89 l0_2 x3_1).f0), .int .i64 0, .int .i64 0]) ?_ 1 _ rfl; (with_reducible repeat (first | refine blk_drewN ?_ _ | refine blk_drew ?_ | refine blk_alloc ?_ _)); refine blk_put (cs := #[.string (⟨#[]⟩ : ByteArray), .int .i64 0, .int .i64 0]) ?_ 0 _ rfl; exact zK) hb); have n2_ := Aside0.mk (below_step zB hb); clear BK150; clear BK153; clear HB; have BK150 := n0_; have BK153 := n1_; have HB := n2_; clear n0_ n1_ n2_; (try clear hb); (try clear hb2); (try clear hk); (try clear hi); have hcz26_0 : w25.cell? ⟨gb153, 0, none⟩ = some (.string ((rd_T89 l0_2 x3_1).f0)) := zE BK153; have hcz26_1 : w25.cell? ⟨gb153, 1, none⟩ = some (.int .i64 ((rd_T89 l0_2 x3_1).f1.f0)) := zE BK153; have hcz26_2 : w25.cell? ⟨gb153, 2, none⟩ = some (.int .i64 ((rd_T89 l0_2 x3_1).f1.f1)) := zE BK153; have hfz26_0 := blk_frozen BK153.out 0; have hfz26_1 := blk_frozen BK153.out 1; have hfz26_2 := blk_frozen BK153.out 2) | (go_at_call 104; (with_reducible refine (spec_l01Zero.calls ((rd_T89 l0_2 x3_1).f1.f0) ((rd_T89 l0_2 x3_1).f1.f1) t156 _ A21.out).mono ?_); rintro e w27 ⟨rfl, hb⟩; have n0_ := Aside0.mk (blk_below (g := gb150) (o := .cells #[.int .i64 a0_0, .int .i64 a0_1, .slice (some ad152) l0_2.length c0_2] 32 (0, 0)) zK hb); have n1_ := Aside0.mk (blk_below (g := gb153) (o := .cells #[.string ((rd_T89 l0_2 x3_1).f0), .int .i64 ((rd_T89 l0_2 x3_1).f1.f0), .int .i64 ((rd_T89 l0_2 x3_1).f1.f1)] 89 (0, 0)) zK hb); have n2_ := Aside0.mk (below_step zB hb); clear BK150; clear BK153; clear HB; have BK150 := n0_; have BK153 := n1_; have HB := n2_; clear n0_ n1_ n2_; (try clear hb); (try clear hb2); (try clear hk); (try clear hi))))
                go_meet
                case rel => exact ⟨_, (t156), (by first | rfl | (simp; done) | (simp [*]; done)), H', ⟨by have := HK1.out; first | omega | exact Nat.le_refl _⟩, ⟨zK⟩, ⟨zK⟩, ⟨zB⟩⟩
               ·replace c20 := Bool.eq_false_iff.mpr c20
                subst c20
                have H1 : (spec_l01Is.j1 k1 x3_1 true a0_0 a0_1 l0_2 ((rd_T89 l0_2 x3_1).f0) ((rd_T89 l0_2 x3_1).f1.f0) ((rd_T89 l0_2 x3_1).f1.f1)) = some r := by rw [if_neg (show ¬ (false = true) by decide)] at H; exact H
                clear H
                have H := H1
                clear H1
                have H' := Aside0.mk H
                clear H
                have hnb28 := NB153_150.out
                have hnc28 := NB150_153.out
                have hcz29_0 : w10.cell? ⟨gb153, 0, none⟩ = some (.string (⟨#[]⟩ : ByteArray)) := zE BK153
                have hcz29_1 : w10.cell? ⟨gb153, 1, none⟩ = some (.int .i64 0) := zE BK153
                have hcz29_2 : w10.cell? ⟨gb153, 2, none⟩ = some (.int .i64 0) := zE BK153
                have hfz29_0 := blk_frozen BK153.out 0
                have hfz29_1 := blk_frozen BK153.out 1
                have hfz29_2 := blk_frozen BK153.out 2
                have hcz30_0 : w10.cell? ⟨gb150, 0, none⟩ = some (.int .i64 a0_0) := zE BK150
                have hcz30_1 : w10.cell? ⟨gb150, 1, none⟩ = some (.int .i64 a0_1) := zE BK150
                have hcz30_2 : w10.cell? ⟨gb150, 2, none⟩ = some (.slice (some ad152) l0_2.length c0_2) := zE BK150
                have hfz30_0 := blk_frozen BK150.out 0
                have hfz30_1 := blk_frozen BK150.out 1
                have hfz30_2 := blk_frozen BK150.out 2
                go_wp2_with (first | (go_at_call 53; (with_reducible refine (spec_l01Word.calls k1 a0_0 ((rd_T89 l0_2 x3_1).f0) true _ A17.out).mono ?_); rintro e w' ⟨rfl, ⟨nd, rfl⟩⟩; (try first | exact ⟨rfl, _, World.drewN_drewN _ _ _⟩ | exact ⟨rfl, _, Eq.trans (World.drewN_drewN _ _ _) (congrArg (World.drewN _) (Nat.add_assoc _ _ _))⟩)) | (go_at_call 103; (with_reducible refine (spec_l01IsFrac.calls k1 ((rd_T89 l0_2 x3_1).f1.f0) ((rd_T89 l0_2 x3_1).f1.f1) false _ A19.out).mono ?_); rintro e w31 ⟨rfl, hb⟩; have n0_ := Aside0.mk (blk_below (g := gb150) (o := .cells #[.int .i64 a0_0, .int .i64 a0_1, .slice (some ad152) l0_2.length c0_2] 32 (0, 0)) (by (with_reducible repeat (first | refine blk_drewN ?_ _ | refine blk_drew ?_ | refine blk_alloc ?_ _)); refine blk_far ?_ NB150_153.out _; (with_reducible repeat (first | refine blk_drewN ?_ _ | refine blk_drew ?_ | refine blk_alloc ?_ _)); refine blk_far ?_ NB150_153.out _; (with_reducible repeat (first | refine blk_drewN ?_ _ | refine blk_drew ?_ | refine blk_alloc ?_ _)); refine blk_far ?_ NB150_153.out _; exact zK) hb); have n1_ := Aside0.mk (blk_below (g := gb153) (o := .cells #[.string ((rd_T89 l0_2 x3_1).f0), .int .i64 ((rd_T89 l0_2 x3_1).f1.f0), .int .i64 ((rd_T89 l0_2 x3_1).f1.f1)] 89 (0, 0)) (by (with_reducible repeat (first | refine blk_drewN ?_ _ | refine blk_drew ?_ | refine blk_alloc ?_ _)); refine blk_put (cs := #[.string ((rd_T89 l0_2 x3_1).f0), .int .i64 ((rd_T89 l0_2 x3_1).f1.f0), .int .i64 0]) ?_ 2 _ rfl; (with_reducible repeat (first | refine blk_drewN ?_ _ | refine blk_drew ?_ | refine blk_alloc ?_ _)); refine blk_put (cs := #[.string ((rd_T89 l0_2 x3_1).f0), .int .i64 0, .int .i64 0]) ?_ 1 _ rfl; (with_reducible repeat (first | refine blk_drewN ?_ _ | refine blk_drew ?_ | refine blk_alloc ?_ _)); refine blk_put (cs := #[.string (⟨#[]⟩ : ByteArray), .int .i64 0, .int .i64 0]) ?_ 0 _ rfl; exact zK) hb); have n2_ := Aside0.mk (below_step zB hb); clear BK150; clear BK153; clear HB; have BK150 := n0_; have BK153 := n1_; have HB := n2_; clear n0_ n1_ n2_; (try clear hb); (try clear hb2); (try clear hk); (try clear hi)))
                repeat (go_quiet (first | (go_at_call 53; (with_reducible refine (spec_l01Word.calls k1 a0_0 ((rd_T89 l0_2 x3_1).f0) true _ A17.out).mono ?_); rintro e w' ⟨rfl, ⟨nd, rfl⟩⟩; (try first | exact ⟨rfl, _, World.drewN_drewN _ _ _⟩ | exact ⟨rfl, _, Eq.trans (World.drewN_drewN _ _ _) (congrArg (World.drewN _) (Nat.add_assoc _ _ _))⟩)) | (go_at_call 103; (with_reducible refine (spec_l01IsFrac.calls k1 ((rd_T89 l0_2 x3_1).f1.f0) ((rd_T89 l0_2 x3_1).f1.f1) false _ A19.out).mono ?_); rintro e w31 ⟨rfl, hb⟩; have n0_ := Aside0.mk (blk_below (g := gb150) (o := .cells #[.int .i64 a0_0, .int .i64 a0_1, .slice (some ad152) l0_2.length c0_2] 32 (0, 0)) (by (with_reducible repeat (first | refine blk_drewN ?_ _ | refine blk_drew ?_ | refine blk_alloc ?_ _)); refine blk_far ?_ NB150_153.out _; (with_reducible repeat (first | refine blk_drewN ?_ _ | refine blk_drew ?_ | refine blk_alloc ?_ _)); refine blk_far ?_ NB150_153.out _; (with_reducible repeat (first | refine blk_drewN ?_ _ | refine blk_drew ?_ | refine blk_alloc ?_ _)); refine blk_far ?_ NB150_153.out _; exact zK) hb); have n1_ := Aside0.mk (blk_below (g := gb153) (o := .cells #[.string ((rd_T89 l0_2 x3_1).f0), .int .i64 ((rd_T89 l0_2 x3_1).f1.f0), .int .i64 ((rd_T89 l0_2 x3_1).f1.f1)] 89 (0, 0)) (by (with_reducible repeat (first | refine blk_drewN ?_ _ | refine blk_drew ?_ | refine blk_alloc ?_ _)); refine blk_put (cs := #[.string ((rd_T89 l0_2 x3_1).f0), .int .i64 ((rd_T89 l0_2 x3_1).f1.f0), .int .i64 0]) ?_ 2 _ rfl; (with_reducible repeat (first | refine blk_drewN ?_ _ | refine blk_drew ?_ | refine blk_alloc ?_ _)); refine blk_put (cs := #[.string ((rd_T89 l0_2 x3_1).f0), .int .i64 0, .int .i64 0]) ?_ 1 _ rfl; (with_reducible repeat (first | refine blk_drewN ?_ _ | refine blk_drew ?_ | refine blk_alloc ?_ _)); refine blk_put (cs := #[.string (⟨#[]⟩ : ByteArray), .int .i64 0, .int .i64 0]) ?_ 0 _ rfl; exact zK) hb); have n2_ := Aside0.mk (below_step zB hb); clear BK150; clear BK153; clear HB; have BK150 := n0_; have BK153 := n1_; have HB := n2_; clear n0_ n1_ n2_; (try clear hb); (try clear hb2); (try clear hk); (try clear hi))); try go_wp2_with (first | (go_at_call 53; (with_reducible refine (spec_l01Word.calls k1 a0_0 ((rd_T89 l0_2 x3_1).f0) true _ A17.out).mono ?_); rintro e w' ⟨rfl, ⟨nd, rfl⟩⟩; (try first | exact ⟨rfl, _, World.drewN_drewN _ _ _⟩ | exact ⟨rfl, _, Eq.trans (World.drewN_drewN _ _ _) (congrArg (World.drewN _) (Nat.add_assoc _ _ _))⟩)) | (go_at_call 103; (with_reducible refine (spec_l01IsFrac.calls k1 ((rd_T89 l0_2 x3_1).f1.f0) ((rd_T89 l0_2 x3_1).f1.f1) false _ A19.out).mono ?_); rintro e w31 ⟨rfl, hb⟩; have n0_ := Aside0.mk (blk_below (g := gb150) (o := .cells #[.int .i64 a0_0, .int .i64 a0_1, .slice (some ad152) l0_2.length c0_2] 32 (0, 0)) (by (with_reducible repeat (first | refine blk_drewN ?_ _ | refine blk_drew ?_ | refine blk_alloc ?_ _)); refine blk_far ?_ NB150_153.out _; (with_reducible repeat (first | refine blk_drewN ?_ _ | refine blk_drew ?_ | refine blk_alloc ?_ _)); refine blk_far ?_ NB150_153.out _; (with_reducible repeat (first | refine blk_drewN ?_ _ | refine blk_drew ?_ | refine blk_alloc ?_ _)); refine blk_far ?_ NB150_153.out _; exact zK) hb); have n1_ := Aside0.mk (blk_below (g := gb153) (o := .cells #[.string ((rd_T89 l0_2 x3_1).f0), .int .i64 ((rd_T89 l0_2 x3_1).f1.f0), .int .i64 ((rd_T89 l0_2 x3_1).f1.f1)] 89 (0, 0)) (by (with_reducible repeat (first | refine blk_drewN ?_ _ | refine blk_drew ?_ | refine blk_alloc ?_ _)); refine blk_put (cs := #[.string ((rd_T89 l0_2 x3_1).f0), .int .i64 ((rd_T89 l0_2 x3_1).f1.f0), .int .i64 0]) ?_ 2 _ rfl; (with_reducible repeat (first | refine blk_drewN ?_ _ | refine blk_drew ?_ | refine blk_alloc ?_ _)); refine blk_put (cs := #[.string ((rd_T89 l0_2 x3_1).f0), .int .i64 0, .int .i64 0]) ?_ 1 _ rfl; (with_reducible repeat (first | refine blk_drewN ?_ _ | refine blk_drew ?_ | refine blk_alloc ?_ _)); refine blk_put (cs := #[.string (⟨#[]⟩ : ByteArray), .int .i64 0, .int .i64 0]) ?_ 0 _ rfl; exact zK) hb); have n2_ := Aside0.mk (below_step zB hb); clear BK150; clear BK153; clear HB; have BK150 := n0_; have BK153 := n1_; have HB := n2_; clear n0_ n1_ n2_; (try clear hb); (try clear hb2); (try clear hk); (try clear hi))))
                go_meet
                case rel => exact ⟨_, (true), (by first | rfl | (simp; done) | (simp [*]; done)), H', ⟨by have := HK1.out; first | omega | exact Nat.le_refl _⟩, ⟨zK⟩, ⟨zK⟩, ⟨zB⟩⟩
              ·replace c18 := Bool.eq_false_iff.mpr c18
               subst c18
               have H1 : (spec_l01Is.j1 k1 x3_1 true a0_0 a0_1 l0_2 ((rd_T89 l0_2 x3_1).f0) ((rd_T89 l0_2 x3_1).f1.f0) ((rd_T89 l0_2 x3_1).f1.f1)) = some r := by rw [if_neg (show ¬ (false = true) by decide)] at H; exact H
               clear H
               have H := H1
               clear H1
               have H' := Aside0.mk H
               clear H
               have hnb32 := NB153_150.out
               have hnc32 := NB150_153.out
               have hcz33_0 : w10.cell? ⟨gb153, 0, none⟩ = some (.string (⟨#[]⟩ : ByteArray)) := zE BK153
               have hcz33_1 : w10.cell? ⟨gb153, 1, none⟩ = some (.int .i64 0) := zE BK153
               have hcz33_2 : w10.cell? ⟨gb153, 2, none⟩ = some (.int .i64 0) := zE BK153
               have hfz33_0 := blk_frozen BK153.out 0
               have hfz33_1 := blk_frozen BK153.out 1
               have hfz33_2 := blk_frozen BK153.out 2
               have hcz34_0 : w10.cell? ⟨gb150, 0, none⟩ = some (.int .i64 a0_0) := zE BK150
               have hcz34_1 : w10.cell? ⟨gb150, 1, none⟩ = some (.int .i64 a0_1) := zE BK150
               have hcz34_2 : w10.cell? ⟨gb150, 2, none⟩ = some (.slice (some ad152) l0_2.length c0_2) := zE BK150
               have hfz34_0 := blk_frozen BK150.out 0
               have hfz34_1 := blk_frozen BK150.out 1
               have hfz34_2 := blk_frozen BK150.out 2
               go_wp2_with (first | (go_at_call 53; (with_reducible refine (spec_l01Word.calls k1 a0_0 ((rd_T89 l0_2 x3_1).f0) false _ A17.out).mono ?_); rintro e w' ⟨rfl, ⟨nd, rfl⟩⟩; (try first | exact ⟨rfl, _, World.drewN_drewN _ _ _⟩ | exact ⟨rfl, _, Eq.trans (World.drewN_drewN _ _ _) (congrArg (World.drewN _) (Nat.add_assoc _ _ _))⟩)))
               repeat (go_quiet (first | (go_at_call 53; (with_reducible refine (spec_l01Word.calls k1 a0_0 ((rd_T89 l0_2 x3_1).f0) false _ A17.out).mono ?_); rintro e w' ⟨rfl, ⟨nd, rfl⟩⟩; (try first | exact ⟨rfl, _, World.drewN_drewN _ _ _⟩ | exact ⟨rfl, _, Eq.trans (World.drewN_drewN _ _ _) (congrArg (World.drewN _) (Nat.add_assoc _ _ _))⟩))); try go_wp2_with (first | (go_at_call 53; (with_reducible refine (spec_l01Word.calls k1 a0_0 ((rd_T89 l0_2 x3_1).f0) false _ A17.out).mono ?_); rintro e w' ⟨rfl, ⟨nd, rfl⟩⟩; (try first | exact ⟨rfl, _, World.drewN_drewN _ _ _⟩ | exact ⟨rfl, _, Eq.trans (World.drewN_drewN _ _ _) (congrArg (World.drewN _) (Nat.add_assoc _ _ _))⟩))))
               go_meet
               case rel => exact ⟨_, (true), (by first | rfl | (simp; done) | (simp [*]; done)), H', ⟨by have := HK1.out; first | omega | exact Nat.le_refl _⟩, ⟨by (with_reducible repeat (first | refine blk_drewN ?_ _ | refine blk_drew ?_ | refine blk_alloc ?_ _)); refine blk_far ?_ NB150_153.out _; (with_reducible repeat (first | refine blk_drewN ?_ _ | refine blk_drew ?_ | refine blk_alloc ?_ _)); refine blk_far ?_ NB150_153.out _; (with_reducible repeat (first | refine blk_drewN ?_ _ | refine blk_drew ?_ | refine blk_alloc ?_ _)); refine blk_far ?_ NB150_153.out _; (with_reducible repeat (first | refine blk_drewN ?_ _ | refine blk_drew ?_ | refine blk_alloc ?_ _)); exact BK150.out⟩, ⟨by (with_reducible repeat (first | refine blk_drewN ?_ _ | refine blk_drew ?_ | refine blk_alloc ?_ _)); refine blk_put (cs := #[.string ((rd_T89 l0_2 x3_1).f0), .int .i64 ((rd_T89 l0_2 x3_1).f1.f0), .int .i64 0]) ?_ 2 _ rfl; (with_reducible repeat (first | refine blk_drewN ?_ _ | refine blk_drew ?_ | refine blk_alloc ?_ _)); refine blk_put (cs := #[.string ((rd_T89 l0_2 x3_1).f0), .int .i64 0, .int .i64 0]) ?_ 1 _ rfl; (with_reducible repeat (first | refine blk_drewN ?_ _ | refine blk_drew ?_ | refine blk_alloc ?_ _)); refine blk_put (cs := #[.string (⟨#[]⟩ : ByteArray), .int .i64 0, .int .i64 0]) ?_ 0 _ rfl; (with_reducible repeat (first | refine blk_drewN ?_ _ | refine blk_drew ?_ | refine blk_alloc ?_ _)); exact BK153.out⟩, ⟨zB⟩⟩
            case rest =>
             clear HC8
             obtain ⟨kq, x47_7, rfl, HA, HJ7, BK150, BK153, HB⟩ := hcut
             cases kq with
             | zero => exact absurd HA.out (by simp [spec_l01Is.j1])
             | succ kj7 =>
              have H := HA.out
              clear HA
              simp only [spec_l01Is.j1] at H
              by_cases c35 : x47_7 = true
              ·subst c35
               have H1 : (some false) = some r := by rw [if_pos rfl] at H; exact H
               clear H
               have H := H1
               clear H1
               obtain rfl := Option.some.inj H
               go_wp2
               repeat (go_quiet (fail); try go_wp2)
               go_ret
               exact ⟨by first | rfl | (simp [errW_none, errW_some] <;> rfl) | (simp [*, errW_none, errW_some] <;> rfl), zB⟩
              ·replace c35 := Bool.eq_false_iff.mpr c35
               subst c35
               have H1 : (if x3_1 > 0 then (if 0 ≤ (wrap64 (x3_1 - 1)) then (if (wrap64 (x3_1 - 1)) < (l0_2.length : Int) then ((spec_l01Before.f ((rd_T89 l0_2 (wrap64 (x3_1 - 1))).f0) ((rd_T89 l0_2 x3_1).f0)).bind fun t158 => (if t158 = true then (spec_l01Is.l0 kj7 (wrap64 (x3_1 + 1)) a0_0 a0_1 l0_2) else (some false))) else (none)) else (none)) else (spec_l01Is.l0 kj7 (wrap64 (x3_1 + 1)) a0_0 a0_1 l0_2)) = some r := by rw [if_neg (show ¬ (false = true) by decide)] at H; exact H
               clear H
               have H := H1
               clear H1
               by_cases c36 : x3_1 > 0
               ·rw [if_pos c36] at H
                have c36b0 : decide (0 < x3_1) = true := decide_eq_true c36
                clear c36
                obtain ⟨ji37, hji37⟩ : ∃ j_ : Int, (wrap64 (x3_1 - 1)) = j_ := ⟨_, rfl⟩
                replace H : (if 0 ≤ (ji37) then (if (ji37) < (l0_2.length : Int) then ((spec_l01Before.f ((rd_T89 l0_2 (ji37)).f0) ((rd_T89 l0_2 x3_1).f0)).bind fun t158 => (if t158 = true then (spec_l01Is.l0 kj7 (wrap64 (x3_1 + 1)) a0_0 a0_1 l0_2) else (some false))) else (none)) else (none)) = some r := by first | (rw [hji37] at H; exact H) | (simp only [hji37] at H ⊢; exact H)
                have hji37w : (IntKind.i64.wrap (x3_1 - 1)) = ji37 := (i64_w _).trans hji37
                by_cases c38 : 0 ≤ (ji37)
                ·rw [if_pos c38] at H
                 have c38b0 : decide (0 ≤ (ji37)) = true := decide_eq_true c38
                 clear c38
                 by_cases c39 : (ji37) < (l0_2.length : Int)
                 ·rw [if_pos c39] at H
                  have c39b0 : decide ((ji37) < (l0_2.length : Int)) = true := decide_eq_true c39
                  clear c39
                  replace H := Option.bind_eq_some_iff.mp H
                  obtain ⟨t158, A400, H⟩ := H
                  replace H : (if t158 = true then (spec_l01Is.l0 kj7 (wrap64 (x3_1 + 1)) a0_0 a0_1 l0_2) else (some false)) = some r := H
                  have A40 := Aside0.mk A400
                  clear A400
                  by_cases c41 : t158 = true
                  ·subst c41
                   have H1 : (spec_l01Is.l0 kj7 (wrap64 (x3_1 + 1)) a0_0 a0_1 l0_2) = some r := by rw [if_pos rfl] at H; exact H
                   clear H
                   have H := H1
                   clear H1
                   have H' := Aside0.mk H
                   clear H
                   have hnb42 := NB150_153.out
                   have hnc42 := NB153_150.out
                   have hcz43_0 : wc.cell? ⟨gb150, 0, none⟩ = some (.int .i64 a0_0) := zE BK150
                   have hcz43_1 : wc.cell? ⟨gb150, 1, none⟩ = some (.int .i64 a0_1) := zE BK150
                   have hcz43_2 : wc.cell? ⟨gb150, 2, none⟩ = some (.slice (some ad152) l0_2.length c0_2) := zE BK150
                   have hfz43_0 := blk_frozen BK150.out 0
                   have hfz43_1 := blk_frozen BK150.out 1
                   have hfz43_2 := blk_frozen BK150.out 2
                   have p157 : 0 ≤ ((ji37) : Int) := zD
                   have q157 : (ji37) < (l0_2.length : Int) := zD
                   obtain ⟨ad157, e157, hx157_0, hx157_1, hx157_2⟩ := at_T89 HR0_2.out (ji37) p157 q157
                   obtain rfl : ad152 = ad157 := (by injection e157)
                   replace hx157_0 := zH HB hx157_0
                   replace hx157_1 := zH HB hx157_1
                   replace hx157_2 := zH HB hx157_2
                   replace p157 := eq_true p157
                   replace q157 := eq_true q157
                   have hcz44_0 : wc.cell? ⟨gb153, 0, none⟩ = some (.string ((rd_T89 l0_2 x3_1).f0)) := zE BK153
                   have hcz44_1 : wc.cell? ⟨gb153, 1, none⟩ = some (.int .i64 ((rd_T89 l0_2 x3_1).f1.f0)) := zE BK153
                   have hcz44_2 : wc.cell? ⟨gb153, 2, none⟩ = some (.int .i64 ((rd_T89 l0_2 x3_1).f1.f1)) := zE BK153
                   have hfz44_0 := blk_frozen BK153.out 0
                   have hfz44_1 := blk_frozen BK153.out 1
                   have hfz44_2 := blk_frozen BK153.out 2
                   go_wp2_with (first | (go_at_call 105; (with_reducible refine (spec_l01Before.calls ((rd_T89 l0_2 (ji37)).f0) ((rd_T89 l0_2 x3_1).f0) true _ A40.out).mono ?_); rintro e w' ⟨rfl, ⟨nd, rfl⟩⟩; (try first | exact ⟨rfl, _, World.drewN_drewN _ _ _⟩ | exact ⟨rfl, _, Eq.trans (World.drewN_drewN _ _ _) (congrArg (World.drewN _) (Nat.add_assoc _ _ _))⟩)))
                   repeat (go_quiet (first | (go_at_call 105; (with_reducible refine (spec_l01Before.calls ((rd_T89 l0_2 (ji37)).f0) ((rd_T89 l0_2 x3_1).f0) true _ A40.out).mono ?_); rintro e w' ⟨rfl, ⟨nd, rfl⟩⟩; (try first | exact ⟨rfl, _, World.drewN_drewN _ _ _⟩ | exact ⟨rfl, _, Eq.trans (World.drewN_drewN _ _ _) (congrArg (World.drewN _) (Nat.add_assoc _ _ _))⟩))); try go_wp2_with (first | (go_at_call 105; (with_reducible refine (spec_l01Before.calls ((rd_T89 l0_2 (ji37)).f0) ((rd_T89 l0_2 x3_1).f0) true _ A40.out).mono ?_); rintro e w' ⟨rfl, ⟨nd, rfl⟩⟩; (try first | exact ⟨rfl, _, World.drewN_drewN _ _ _⟩ | exact ⟨rfl, _, Eq.trans (World.drewN_drewN _ _ _) (congrArg (World.drewN _) (Nat.add_assoc _ _ _))⟩))))
                   go_roundg kj7
                   case measure => have := HK1.out; have := HJ7.out; omega
                   case rel => exact ⟨(wrap64 (x3_1 + 1)), (by first | rfl | (simp; done) | (simp [*]; done)), H', ⟨by have := HK1.out; have := HJ7.out; omega⟩, ⟨zK⟩, ⟨zB⟩⟩
                  ·replace c41 := Bool.eq_false_iff.mpr c41
                   subst c41
                   have H1 : (some false) = some r := by rw [if_neg (show ¬ (false = true) by decide)] at H; exact H
                   clear H
                   have H := H1
                   clear H1
                   obtain rfl := Option.some.inj H
                   have hnb45 := NB150_153.out
                   have hnc45 := NB153_150.out
                   have hcz46_0 : wc.cell? ⟨gb150, 0, none⟩ = some (.int .i64 a0_0) := zE BK150
                   have hcz46_1 : wc.cell? ⟨gb150, 1, none⟩ = some (.int .i64 a0_1) := zE BK150
                   have hcz46_2 : wc.cell? ⟨gb150, 2, none⟩ = some (.slice (some ad152) l0_2.length c0_2) := zE BK150
                   have hfz46_0 := blk_frozen BK150.out 0
                   have hfz46_1 := blk_frozen BK150.out 1
                   have hfz46_2 := blk_frozen BK150.out 2
                   have p157 : 0 ≤ ((ji37) : Int) := zD
                   have q157 : (ji37) < (l0_2.length : Int) := zD
                   obtain ⟨ad157, e157, hx157_0, hx157_1, hx157_2⟩ := at_T89 HR0_2.out (ji37) p157 q157
                   obtain rfl : ad152 = ad157 := (by injection e157)
                   replace hx157_0 := zH HB hx157_0
                   replace hx157_1 := zH HB hx157_1
                   replace hx157_2 := zH HB hx157_2
                   replace p157 := eq_true p157
                   replace q157 := eq_true q157
                   have hcz47_0 : wc.cell? ⟨gb153, 0, none⟩ = some (.string ((rd_T89 l0_2 x3_1).f0)) := zE BK153
                   have hcz47_1 : wc.cell? ⟨gb153, 1, none⟩ = some (.int .i64 ((rd_T89 l0_2 x3_1).f1.f0)) := zE BK153
                   have hcz47_2 : wc.cell? ⟨gb153, 2, none⟩ = some (.int .i64 ((rd_T89 l0_2 x3_1).f1.f1)) := zE BK153
                   have hfz47_0 := blk_frozen BK153.out 0
                   have hfz47_1 := blk_frozen BK153.out 1
                   have hfz47_2 := blk_frozen BK153.out 2
                   go_wp2_with (first | (go_at_call 105; (with_reducible refine (spec_l01Before.calls ((rd_T89 l0_2 (ji37)).f0) ((rd_T89 l0_2 x3_1).f0) false _ A40.out).mono ?_); rintro e w' ⟨rfl, ⟨nd, rfl⟩⟩; (try first | exact ⟨rfl, _, World.drewN_drewN _ _ _⟩ | exact ⟨rfl, _, Eq.trans (World.drewN_drewN _ _ _) (congrArg (World.drewN _) (Nat.add_assoc _ _ _))⟩)))
                   repeat (go_quiet (first | (go_at_call 105; (with_reducible refine (spec_l01Before.calls ((rd_T89 l0_2 (ji37)).f0) ((rd_T89 l0_2 x3_1).f0) false _ A40.out).mono ?_); rintro e w' ⟨rfl, ⟨nd, rfl⟩⟩; (try first | exact ⟨rfl, _, World.drewN_drewN _ _ _⟩ | exact ⟨rfl, _, Eq.trans (World.drewN_drewN _ _ _) (congrArg (World.drewN _) (Nat.add_assoc _ _ _))⟩))); try go_wp2_with (first | (go_at_call 105; (with_reducible refine (spec_l01Before.calls ((rd_T89 l0_2 (ji37)).f0) ((rd_T89 l0_2 x3_1).f0) false _ A40.out).mono ?_); rintro e w' ⟨rfl, ⟨nd, rfl⟩⟩; (try first | exact ⟨rfl, _, World.drewN_drewN _ _ _⟩ | exact ⟨rfl, _, Eq.trans (World.drewN_drewN _ _ _) (congrArg (World.drewN _) (Nat.add_assoc _ _ _))⟩))))
                   go_ret
                   exact ⟨by first | rfl | (simp [errW_none, errW_some] <;> rfl) | (simp only [← hji37]; first | rfl | (simp [errW_none, errW_some] <;> rfl)) | (simp [*, errW_none, errW_some] <;> rfl), zB⟩
                 ·rw [if_neg c39] at H
                  exact absurd H (by simp)
                ·rw [if_neg c38] at H
                 exact absurd H (by simp)
               ·rw [if_neg c36] at H
                have c36b0 : decide (0 < x3_1) = false := decide_eq_false c36
                clear c36
                have H' := Aside0.mk H
                clear H
                go_wp2
                repeat (go_quiet (fail); try go_wp2)
                go_roundg kj7
                case measure => have := HK1.out; have := HJ7.out; omega
                case rel => exact ⟨(wrap64 (x3_1 + 1)), (by first | rfl | (simp; done) | (simp [*]; done)), H', ⟨by have := HK1.out; have := HJ7.out; omega⟩, ⟨zK⟩, ⟨zB⟩⟩
          · rw [if_neg c7] at H
            exact absurd H (by simp)
        · rw [if_neg c6] at H
          have c6b0 : decide (x3_1 < (l0_2.length : Int)) = false := decide_eq_false c6
          clear c6
          obtain rfl := Option.some.inj H
          have hcz48_0 : wr.cell? ⟨gb150, 0, none⟩ = some (.int .i64 a0_0) := zE BK150
          have hcz48_1 : wr.cell? ⟨gb150, 1, none⟩ = some (.int .i64 a0_1) := zE BK150
          have hcz48_2 : wr.cell? ⟨gb150, 2, none⟩ = some (.slice A0_2 l0_2.length c0_2) := zE BK150
          have hfz48_0 := blk_frozen BK150.out 0
          have hfz48_1 := blk_frozen BK150.out 1
          have hfz48_2 := blk_frozen BK150.out 2
          go_wp2
          repeat (go_quiet (fail); try go_wp2)
          go_ret
          exact ⟨by first | rfl | (simp [errW_none, errW_some] <;> rfl) | (simp [*, errW_none, errW_some] <;> rfl), zB⟩
  · replace c3 := Bool.eq_false_iff.mpr c3
    subst c3
    have H1 : (some false) = some r := by rw [if_neg (show ¬ (false = true) by decide)] at H; exact H
    clear H
    have H := H1
    clear H1
    obtain rfl := Option.some.inj H
    go_enter Try.func52, Try.ntmps52
    go_wp2_with (first | ((with_reducible refine gate_dst (N := 1) rfl ?_); refine box_event ?hg (N := 1) ?hd (cs := #[.int .i64 a0_0, .int .i64 a0_1, .slice A0_2 l0_2.length c0_2]) (t := 32) ?hr ?_; (case hd => rfl); (case hg => rfl); (case hr => first | (go_simp; done) | (go_simp; rfl)); intro gb150 hg w49 hbox hb; have n0_ := Aside0.mk (below_step zB hb); have n1_ := Aside0.mk (hbox); have n2_ := Aside0.mk (zG : w.heap.size ≤ gb150); have n3_ := Aside0.mk (zG : w.heap.size ≤ gb150); clear HB; have HB := n0_; have BK150 := n1_; have GW150 := n2_; have GE150 := n3_; clear n0_ n1_ n2_ n3_; clear hb hbox hg; have hcz50_0 : w49.cell? ⟨gb150, 0, none⟩ = some (.int .i64 a0_0) := zE BK150; have hcz50_1 : w49.cell? ⟨gb150, 1, none⟩ = some (.int .i64 a0_1) := zE BK150; have hcz50_2 : w49.cell? ⟨gb150, 2, none⟩ = some (.slice A0_2 l0_2.length c0_2) := zE BK150; have hfz50_0 := blk_frozen BK150.out 0; have hfz50_1 := blk_frozen BK150.out 1; have hfz50_2 := blk_frozen BK150.out 2) | (go_at_call 98; (with_reducible refine (spec_l01Sizes.calls a0_0 a0_1 false _ A2.out).mono ?_); rintro e w' ⟨rfl, ⟨nd, rfl⟩⟩; (try first | exact ⟨rfl, _, World.drewN_drewN _ _ _⟩ | exact ⟨rfl, _, Eq.trans (World.drewN_drewN _ _ _) (congrArg (World.drewN _) (Nat.add_assoc _ _ _))⟩)))
    repeat (go_quiet (first | ((with_reducible refine gate_dst (N := 1) rfl ?_); refine box_event ?hg (N := 1) ?hd (cs := #[.int .i64 a0_0, .int .i64 a0_1, .slice A0_2 l0_2.length c0_2]) (t := 32) ?hr ?_; (case hd => rfl); (case hg => rfl); (case hr => first | (go_simp; done) | (go_simp; rfl)); intro gb150 hg w49 hbox hb; have n0_ := Aside0.mk (below_step zB hb); have n1_ := Aside0.mk (hbox); have n2_ := Aside0.mk (zG : w.heap.size ≤ gb150); have n3_ := Aside0.mk (zG : w.heap.size ≤ gb150); clear HB; have HB := n0_; have BK150 := n1_; have GW150 := n2_; have GE150 := n3_; clear n0_ n1_ n2_ n3_; clear hb hbox hg; have hcz50_0 : w49.cell? ⟨gb150, 0, none⟩ = some (.int .i64 a0_0) := zE BK150; have hcz50_1 : w49.cell? ⟨gb150, 1, none⟩ = some (.int .i64 a0_1) := zE BK150; have hcz50_2 : w49.cell? ⟨gb150, 2, none⟩ = some (.slice A0_2 l0_2.length c0_2) := zE BK150; have hfz50_0 := blk_frozen BK150.out 0; have hfz50_1 := blk_frozen BK150.out 1; have hfz50_2 := blk_frozen BK150.out 2) | (go_at_call 98; (with_reducible refine (spec_l01Sizes.calls a0_0 a0_1 false _ A2.out).mono ?_); rintro e w' ⟨rfl, ⟨nd, rfl⟩⟩; (try first | exact ⟨rfl, _, World.drewN_drewN _ _ _⟩ | exact ⟨rfl, _, Eq.trans (World.drewN_drewN _ _ _) (congrArg (World.drewN _) (Nat.add_assoc _ _ _))⟩))); try go_wp2_with (first | ((with_reducible refine gate_dst (N := 1) rfl ?_); refine box_event ?hg (N := 1) ?hd (cs := #[.int .i64 a0_0, .int .i64 a0_1, .slice A0_2 l0_2.length c0_2]) (t := 32) ?hr ?_; (case hd => rfl); (case hg => rfl); (case hr => first | (go_simp; done) | (go_simp; rfl)); intro gb150 hg w49 hbox hb; have n0_ := Aside0.mk (below_step zB hb); have n1_ := Aside0.mk (hbox); have n2_ := Aside0.mk (zG : w.heap.size ≤ gb150); have n3_ := Aside0.mk (zG : w.heap.size ≤ gb150); clear HB; have HB := n0_; have BK150 := n1_; have GW150 := n2_; have GE150 := n3_; clear n0_ n1_ n2_ n3_; clear hb hbox hg; have hcz50_0 : w49.cell? ⟨gb150, 0, none⟩ = some (.int .i64 a0_0) := zE BK150; have hcz50_1 : w49.cell? ⟨gb150, 1, none⟩ = some (.int .i64 a0_1) := zE BK150; have hcz50_2 : w49.cell? ⟨gb150, 2, none⟩ = some (.slice A0_2 l0_2.length c0_2) := zE BK150; have hfz50_0 := blk_frozen BK150.out 0; have hfz50_1 := blk_frozen BK150.out 1; have hfz50_2 := blk_frozen BK150.out 2) | (go_at_call 98; (with_reducible refine (spec_l01Sizes.calls a0_0 a0_1 false _ A2.out).mono ?_); rintro e w' ⟨rfl, ⟨nd, rfl⟩⟩; (try first | exact ⟨rfl, _, World.drewN_drewN _ _ _⟩ | exact ⟨rfl, _, Eq.trans (World.drewN_drewN _ _ _) (congrArg (World.drewN _) (Nat.add_assoc _ _ _))⟩))))
    go_ret
    exact ⟨by first | rfl | (simp [errW_none, errW_some] <;> rfl) | (simp [*, errW_none, errW_some] <;> rfl), zB⟩
/-! ### spec_l02One: function 106 -/
def spec_l02One.f (a0 : Int) : Option (Int × Int) := some (a0, 1)
set_option maxHeartbeats 8000000 in
set_option maxRecDepth 100000 in
theorem spec_l02One.calls (a0 : Int) (r1 : Int) (r2 : Int) (w : World) (h : spec_l02One.f a0 = some (r1, r2)) :
    Calls Try.prog 106 #[.int .i64 a0] w fun e w' => e = .returned (.agg #[.int .i64 r1, .int .i64 r2]) ∧ Below w.heap.size w w' := by
  have hu27 := Try.underlying27
  have HB := Aside0.mk (Below.refl w.heap.size w)
  have H : (some (a0, 1)) = some (r1, r2) := h
  clear h
  simp only [Option.some.injEq, Prod.mk.injEq] at H
  obtain ⟨rfl, rfl⟩ := H
  go_enter Try.func106, Try.ntmps106
  go_wp2_with (first | ((with_reducible refine gate_dst (N := 2) rfl ?_); refine box_event ?hg (N := 2) ?hd (cs := #[.int .i64 0, .int .i64 0]) (t := 27) ?hr ?_; (case hd => rfl); (case hg => rfl); (case hr => first | (go_simp; done) | (go_simp; rfl)); intro gb159 hg w2 hbox hb; have n0_ := Aside0.mk (below_step zB hb); have n1_ := Aside0.mk (hbox); have n2_ := Aside0.mk (zG : w.heap.size ≤ gb159); have n3_ := Aside0.mk (zG : w.heap.size ≤ gb159); clear HB; have HB := n0_; have BK159 := n1_; have GW159 := n2_; have GE159 := n3_; clear n0_ n1_ n2_ n3_; clear hb hbox hg; have hcz3_0 : w2.cell? ⟨gb159, 0, none⟩ = some (.int .i64 0) := zE BK159; have hcz3_1 : w2.cell? ⟨gb159, 1, none⟩ = some (.int .i64 0) := zE BK159; have hfz3_0 := blk_frozen BK159.out 0; have hfz3_1 := blk_frozen BK159.out 1))
  refine bodyPost_ret (results_cell_row rfl _ _ gb159 27 #[.int .i64 a0, .int .i64 1] (0, 0) _ rfl (by (with_reducible repeat (first | refine blk_drewN ?_ _ | refine blk_drew ?_ | refine blk_alloc ?_ _)); refine blk_put (cs := #[.int .i64 a0, .int .i64 0]) ?_ 1 _ rfl; (with_reducible repeat (first | refine blk_drewN ?_ _ | refine blk_drew ?_ | refine blk_alloc ?_ _)); refine blk_put (cs := #[.int .i64 0, .int .i64 0]) ?_ 0 _ rfl; exact zK) Try.underlying27 rfl (by kernel_rfl)) rfl ?_
  exact ⟨by first | rfl | (simp [errW_none, errW_some] <;> rfl) | (simp [*, errW_none, errW_some] <;> rfl), zB⟩
/-! ### spec_l08Unit: function 151 -/
def spec_l08Unit.l0 : Nat → Int → List (List Int) → Int → Option ((List (List Int)))
  | 0, _, _, _ => none
  | k + 1, x0, x3, x4 => if x4 < x0 then (if 0 ≤ x0 then (if (x0 : Int).toNat ≤ 35184372088832 then ((some (List.replicate (x0 : Int).toNat 0 : List Int)).bind fun y163 => (if 0 ≤ x4 then (if x4 < (y163.length : Int) then (if x3.length < 5864062014805 then (spec_l08Unit.l0 k x0 (x3 ++ [(y163.set (x4 : Int).toNat 1)]) (wrap64 (x4 + 1))) else (none)) else (none)) else (none))) else (none)) else (none)) else (some x3)
def spec_l08Unit.f (k : Nat) (a0 : Int) : Option ((List (List Int))) := spec_l08Unit.l0 k a0 (([] : List (List Int))) 0
theorem spec_l08Unit.mono_l : ∀ k, (∀ y0 y1 y2, LeO (spec_l08Unit.l0 k y0 y1 y2) (spec_l08Unit.l0 (k + 1) y0 y1 y2))
  | 0 => fun _ _ _ r h => by simp [spec_l08Unit.l0] at h
  | k + 1 => by
    have ih0 := spec_l08Unit.mono_l k
    · intro y0 y1 y2
      unfold spec_l08Unit.l0
      repeat' first
      | (with_reducible exact ih0 _ _ _)
      | (with_reducible exact LeO.refl _)
      | (with_reducible exact LeO.none _)
      | (with_reducible refine LeO.ite ?_ ?_)
      | (with_reducible refine LeO.bind ?_ (fun _ => ?_))
theorem spec_l08Unit.mono : ∀ a0 k, LeO (spec_l08Unit.f k a0) (spec_l08Unit.f (k + 1) a0) := by
  intro a0 k
  have ih0 := spec_l08Unit.mono_l k
  unfold spec_l08Unit.f
  repeat' first
      | (with_reducible exact ih0 _ _ _)
      | (with_reducible exact LeO.refl _)
      | (with_reducible exact LeO.none _)
      | (with_reducible refine LeO.ite ?_ ?_)
      | (with_reducible refine LeO.bind ?_ (fun _ => ?_))
set_option maxHeartbeats 8000000 in
set_option maxRecDepth 100000 in
theorem spec_l08Unit.calls (k : Nat) (a0 : Int) (r : List (List Int)) (w : World) (h : spec_l08Unit.f k a0 = some r) :
    Calls Try.prog 151 #[.int .i64 a0] w fun e w' => ∃ v0_ : Value, e = .returned (v0_) ∧ Kd.S (Kd.slice 2 (Kd.int .i64)) 48 w' w.heap.size (fun _ => True) v0_ r ∧ Below w.heap.size w w' := by
  have HB := Aside0.mk (Below.refl w.heap.size w)
  have H : (spec_l08Unit.l0 k a0 (([] : List (List Int))) 0) = some r := h
  clear h
  obtain ⟨y160, hy160⟩ : ∃ y_ : List (List Int), y_ = (([] : List (List Int))) := ⟨_, rfl⟩
  replace H : (spec_l08Unit.l0 k a0 y160 0) = some r := by first | (rw [hy160]; with_reducible exact H) | (have H2_ := (Option.bind_some _ _).symm.trans H; rw [hy160]; with_reducible exact H2_) | (have H2_ := (Option.bind_some _ _).symm.trans H; with_reducible exact H2_) | with_reducible exact H | (rw [hy160]; exact H) | exact H
  have Ny160 := Aside0.mk hy160
  clear hy160
  have H' := Aside0.mk H
  clear H
  go_enter Try.func151, Try.ntmps151
  go_wp2_with (first | ((with_reducible refine gate_dst (N := 6) rfl ?_); refine Kd.S_lit (Kd.slice 2 (Kd.int .i64)) _ 48 ?hg (N := 6) ?hd (xs := ([] : List (List Int))) (inner := []) (ok := fun _ => True) (okp := fun _ => True) ?hr ?hp (fun _ hk => hk) trivial (Below.refl _ _) (Nat.le_refl _) (by simp) ?_; (case hd => rfl); (case hg => rfl); (case hr => first | (go_simp; done) | (go_simp; rfl)); (case hp => exact (Reps.none _ _)); intro v161 w2 ho3 hb hg_ hnew_; clear hg_ hnew_; (first | rw [← Ny160.out] at ho3 | (simp only [Int.reduceToNat] at ho3; rw [← Ny160.out] at ho3)); have n0_ := Aside0.mk (Kd.S_lower ho3 (below_size zB)); have n1_ := Aside0.mk (below_step zB hb); clear HB; have HO162 := n0_; have HB := n1_; clear n0_ n1_; clear hb ho3))
  go_loopg [3, 4] k (fun kq v3 v4 w' => ∃ (x3_1 : List (List Int)) (x4_1 : Int), v4 = .int .i64 x4_1 ∧ Aside0 (spec_l08Unit.l0 kq a0 x3_1 x4_1 = some r) ∧ Aside0 (kq ≤ k) ∧ Aside0 (Kd.S (Kd.slice 2 (Kd.int .i64)) 48 w' w.heap.size (fun _ => True) v3 x3_1) ∧ Aside0 (Below w.heap.size w w'))
  case atStart => exact ⟨(y160), (0), (by first | rfl | (simp; done) | (simp [*]; done)), H', ⟨Nat.le_refl _⟩, ⟨zS⟩, ⟨zB⟩⟩
  case round =>
    clear H'
    obtain ⟨x3_1, x4_1, rfl, HA, HK1, HO_3, HB⟩ := hrel
    cases gk with
    | zero => exact absurd HA.out (by simp [spec_l08Unit.l0])
    | succ k1 =>
      have H := HA.out
      clear HA
      simp only [spec_l08Unit.l0] at H
      by_cases c4 : x4_1 < a0
      · rw [if_pos c4] at H
        have c4b0 : decide (x4_1 < a0) = true := decide_eq_true c4
        clear c4
        by_cases c5 : 0 ≤ a0
        · rw [if_pos c5] at H
          have c5b0 := eq_true c5
          have c5b1 : decide (0 ≤ a0) = true := decide_eq_true c5
          clear c5
          by_cases c6 : (a0 : Int).toNat ≤ 35184372088832
          · rw [if_pos c6] at H
            have c6b0 := eq_true c6
            have c6b1 : decide ((a0 : Int).toNat ≤ 35184372088832) = true := decide_eq_true c6
            clear c6
            obtain ⟨y163, hy163⟩ : ∃ y_ : List Int, y_ = (List.replicate (a0 : Int).toNat 0) := ⟨_, rfl⟩
            replace H : (if 0 ≤ x4_1 then (if x4_1 < (y163.length : Int) then (if x3_1.length < 5864062014805 then (spec_l08Unit.l0 k1 a0 (x3_1 ++ [(y163.set (x4_1 : Int).toNat 1)]) (wrap64 (x4_1 + 1))) else (none)) else (none)) else (none)) = some r := by first | (rw [hy163]; with_reducible exact H) | (have H2_ := (Option.bind_some _ _).symm.trans H; rw [hy163]; with_reducible exact H2_) | (have H2_ := (Option.bind_some _ _).symm.trans H; with_reducible exact H2_) | with_reducible exact H | (rw [hy163]; exact H) | exact H
            have Ny163 := Aside0.mk hy163
            clear hy163
            by_cases c7 : 0 ≤ x4_1
            ·rw [if_pos c7] at H
             have c7b0 : decide (0 ≤ x4_1) = true := decide_eq_true c7
             clear c7
             by_cases c8 : x4_1 < (y163.length : Int)
             ·rw [if_pos c8] at H
              have c8b0 : decide (x4_1 < (y163.length : Int)) = true := decide_eq_true c8
              clear c8
              obtain ⟨y166, hy166⟩ : ∃ y_ : List Int, y_ = (y163.set (x4_1 : Int).toNat 1) := ⟨_, rfl⟩
              replace H : (if x3_1.length < 5864062014805 then (spec_l08Unit.l0 k1 a0 (x3_1 ++ [y166]) (wrap64 (x4_1 + 1))) else (none)) = some r := by first | (rw [hy166]; with_reducible exact H) | (have H2_ := (Option.bind_some _ _).symm.trans H; rw [hy166]; with_reducible exact H2_) | (have H2_ := (Option.bind_some _ _).symm.trans H; with_reducible exact H2_) | with_reducible exact H | (rw [hy166]; exact H) | exact H
              have Ny166 := Aside0.mk hy166
              clear hy166
              by_cases c10 : x3_1.length < 5864062014805
              ·rw [if_pos c10] at H
               have LMc10 := Aside0.mk c10
               clear c10
               obtain ⟨y167, hy167⟩ : ∃ y_ : List (List Int), y_ = (x3_1 ++ [y166]) := ⟨_, rfl⟩
               replace H : (spec_l08Unit.l0 k1 a0 y167 (wrap64 (x4_1 + 1))) = some r := by first | (rw [hy167]; with_reducible exact H) | (have H2_ := (Option.bind_some _ _).symm.trans H; rw [hy167]; with_reducible exact H2_) | (have H2_ := (Option.bind_some _ _).symm.trans H; with_reducible exact H2_) | with_reducible exact H | (rw [hy167]; exact H) | exact H
               have Ny167 := Aside0.mk hy167
               clear hy167
               have H' := Aside0.mk H
               clear H
               go_wp2_with (first | ((with_reducible refine gate_dst (N := 13) rfl ?_); refine Kd.R_make (Kd.int .i64) _ 2 rfl (N := 13) rfl 48 _ _ rfl a0 rfl rfl Try.underlying48 (.int .i64 0) 8 info2 rfl (by decide) (by omega) 0 (ok := fun _ => True) (okp := fun _ => True) rfl (fun _ hk => hk) trivial (zD) (Nat.le_trans (Nat.mul_le_mul_right _ (zD : a0.toNat ≤ 35184372088832)) (by omega)) (Below.refl _ _) (Nat.le_refl _) ?_; intro v164 w11 ho12 hb hg_ hnew_; clear hg_ hnew_; (first | rw [← Ny163.out] at ho12 | (simp only [Int.reduceToNat] at ho12; rw [← Ny163.out] at ho12)); have n0_ := Aside0.mk (Kd.S_elder' zS (Kd.R_base ho12) hb); have n1_ := Aside0.mk (Kd.R_lower ho12 (below_size zB)); have n2_ := Aside0.mk (below_step zB hb); clear HO_3; clear HB; have HO_3 := n0_; have HO165 := n1_; have HB := n2_; clear n0_ n1_ n2_; clear hb ho12; have p9 : 0 ≤ (x4_1 : Int) := zD; have q9 : (x4_1 : Int) < ((y163.length : Int) : Int) := zD; obtain ⟨go9, co9, eo9, gb9, gl9, cl9, HG9⟩ := Kd.R_form HO165.out (by omega); (first | cases eo9 | (injection eo9 with ea_ en_ ec_; (first | subst ea_ | (injection ea_ with ea_; subst ea_)); subst ec_; clear en_)); have GB9 := Aside0.mk gb9; have GG9 := Aside0.mk HG9; clear gb9 gl9 HG9; obtain ⟨hx9_0, hf9_0⟩ := Kd.R_celln 0 HO165.out (x4_1 : Int) p9 q9; replace p9 := eq_true p9; replace q9 := eq_true q9; obtain ⟨hy13_, hz13_⟩ := Kd.R_celln 0 HO165.out (x4_1 : Int) (zD) (zD); have HP13 := Kd.R_putg HO165.out (x4_1 : Int) 1) | ((with_reducible refine gate_store (t := 2) (p := 16) rfl ?_); refine store_event (t := 2) (p := 16) (v := ?vo_w14) (w1 := (w11.setCell ⟨go9, (x4_1 : Int).toNat, none⟩ (.int .i64 1))) ?hg ?ho ?hn ?hr ?_; (case ho => rfl); (case hg => rfl); (case hn => rfl); (case hr => first | (go_simp; done) | (go_simp; rfl)); intro w14 hw; have hg : w11.grownBy w14 (some go9) := (by rw [hw]; exact HP13.2); have hp_ : Kd.R (Kd.int .i64) 2 w14 w.heap.size (fun _ => True) (.slice (some ⟨go9, 0, none⟩) y163.length co9) y166 := (by rw [hw, Ny166.out]; exact HP13.1); clear HP13; have n0_ := Aside0.mk (Kd.S_after (v := (.slice (some ⟨go9, 0, none⟩) y163.length co9)) (v1 := (.slice (some ⟨go9, 0, none⟩) y163.length co9)) (ok := (fun _ => True)) zS hg (.inl rfl)); have n1_ := Aside0.mk (hp_); have n2_ := Aside0.mk ((by rw [hw]; exact below_set (HB.out) GB9.out : Below w.heap.size w w14)); clear HO_3; clear HO165; clear HB; have HO_3 := n0_; have HO165 := n1_; have HB := n2_; clear n0_ n1_ n2_; clear hg hw hp_) | ((with_reducible refine gate_builtin (b := .append) (xs := #[.tmp 17, .tmp 19]) rfl ?_); at_builtin; refine Kd.S_append (Kd.slice 2 (Kd.int .i64)) (w0 := w) w.heap.size rfl (.tmp 17) (.tmp 19) 62 48 (.slice none 0 0) 24 rfl Try.underlying62 info48 rfl (by decide) (by omega) u3 x3_1 y166 [.slice (some ⟨go9, 0, none⟩) y163.length co9] (fun _ => True) (fun k_ => some k_ = (.slice (some ⟨go9, 0, none⟩) y163.length co9 : Value).ownBlock) rfl rfl ?aP (fun k_ hk_ => ((Kd.R_mono (ok' := fun k_ => ((fun _ => True)) k_ ∧ some k_ ≠ (u3 : Value).ownBlock) (Kd.R_apart' (HO165.out) (Kd.S_typed HO_3.out) (by decide)) (fun k_ hk => ⟨trivial, hk.2⟩))).1 k_ hk_.symm) ?aF ?aO ?aB ?aS ?aL ?_; (case aP => exact Kd.M_row (Kd.R_mono (Kd.R_tight rfl (Kd.R_mono (ok' := fun k_ => ((fun _ => True)) k_ ∧ some k_ ≠ (u3 : Value).ownBlock) (Kd.R_apart' (HO165.out) (Kd.S_typed HO_3.out) (by decide)) (fun k_ hk => ⟨trivial, hk.2⟩))) (fun _ h_ => h_))); (case aB => exact zB); (case aF => exact (fun _ _ => trivial)); (case aO => exact (by (with_reducible repeat (first | apply Kd.S_alloc | apply Kd.S_drewN | apply Kd.S_drew)); exact Kd.S_mono HO_3.out (fun k_ hk => ⟨trivial, fun e_ => hk.2 e_⟩))); (case aS => exact (below_size zB)); (case aL => have := LMc10.out; omega); intro v168 w15 ho hb hg hat; rw [← Ny167.out] at ho; have n0_ := Aside0.mk (hb); have n1_ := Aside0.mk (ho); clear HB; clear HO_3; clear HO165; have HB := n0_; have HO169 := n1_; clear n0_ n1_; clear ho hb hg hat))
               go_roundg k1
               case measure => have := HK1.out; omega
               case rel => exact ⟨(y167), (wrap64 (x4_1 + 1)), (by first | rfl | (simp; done) | (simp [*]; done)), H', ⟨by have := HK1.out; omega⟩, ⟨zS⟩, ⟨zB⟩⟩
              ·rw [if_neg c10] at H
               exact absurd H (by simp)
             ·rw [if_neg c8] at H
              exact absurd H (by simp)
            ·rw [if_neg c7] at H
             exact absurd H (by simp)
          · rw [if_neg c6] at H
            exact absurd H (by simp)
        · rw [if_neg c5] at H
          exact absurd H (by simp)
      · rw [if_neg c4] at H
        have c4b0 : decide (x4_1 < a0) = false := decide_eq_false c4
        clear c4
        obtain rfl := Option.some.inj H
        go_wp2
        go_ret
        exact ⟨_, by first | rfl | (simp [errW_none, errW_some] <;> rfl) | (simp [*, errW_none, errW_some] <;> rfl), zS, zB⟩
end Go.Proofs.Ytcklefgkbddlhaa.P
