/- What a call of each Go function named below comes to is what the plain Lean function beside it says. Made by a program of this session out of the print of the translation; Lean checks it. -/
import Derived.Test.YtcklefgkbddlhaaPx0
import Derived.Test.YtcklefgkbddlhaaPx5
namespace Go.Proofs.Ytcklefgkbddlhaa.P
open Go.RowKit Go.Proofs.YtcklefgkbddlhaaW.PrintWords Go.Proofs.YtcklefgkbddlhaaW.PrintLast Go.Proofs.YtcklefgkbddlhaaW.PrintMore
attribute [local go_sem] max2_int min2_int max_two min_two max_three min_three max_four min_four   -- for this text's walks alone
set_option linter.unusedVariables false
set_option linter.unusedSimpArgs false


/-! ### spec_l01Is: function 52 -/
mutual
def spec_l01Is.l0 : Nat → Int → Int → Int → List (S89) → Option (Bool)
  | 0, _, _, _, _ => none
  | k + 1, x3, x168000, x168001, x168002 => if x3 < (x168002.length : Int) then (if 0 ≤ x3 then (if (((rd_T89 x168002 x3).f0).size : Int) > x168001 then (spec_l01Is.j1 k x3 true x168000 x168001 x168002 ((rd_T89 x168002 x3).f0) ((rd_T89 x168002 x3).f1.f0) ((rd_T89 x168002 x3).f1.f1)) else ((spec_l01Word.f k x168000 ((rd_T89 x168002 x3).f0)).bind fun t171 => (if t171 = true then ((spec_l01IsFrac.f k ((rd_T89 x168002 x3).f1.f0) ((rd_T89 x168002 x3).f1.f1)).bind fun t172 => (if t172 = true then ((spec_l01Zero.f ((rd_T89 x168002 x3).f1.f0) ((rd_T89 x168002 x3).f1.f1)).bind fun t173 => (spec_l01Is.j1 k x3 t173 x168000 x168001 x168002 ((rd_T89 x168002 x3).f0) ((rd_T89 x168002 x3).f1.f0) ((rd_T89 x168002 x3).f1.f1))) else (spec_l01Is.j1 k x3 true x168000 x168001 x168002 ((rd_T89 x168002 x3).f0) ((rd_T89 x168002 x3).f1.f0) ((rd_T89 x168002 x3).f1.f1)))) else (spec_l01Is.j1 k x3 true x168000 x168001 x168002 ((rd_T89 x168002 x3).f0) ((rd_T89 x168002 x3).f1.f0) ((rd_T89 x168002 x3).f1.f1))))) else (none)) else (some true)
def spec_l01Is.j1 : Nat → Int → Bool → Int → Int → List (S89) → ByteArray → Int → Int → Option (Bool)
  | 0, _, _, _, _, _, _, _, _ => none
  | k + 1, x3, x47, x168000, x168001, x168002, x171000, x171001, x171002 => if x47 = true then (some false) else (if x3 > 0 then (if 0 ≤ (wrap64 (x3 - 1)) then (if (wrap64 (x3 - 1)) < (x168002.length : Int) then ((spec_l01Before.f ((rd_T89 x168002 (wrap64 (x3 - 1))).f0) x171000).bind fun t175 => (if t175 = true then (spec_l01Is.l0 k (wrap64 (x3 + 1)) x168000 x168001 x168002) else (some false))) else (none)) else (none)) else (spec_l01Is.l0 k (wrap64 (x3 + 1)) x168000 x168001 x168002))
end
def spec_l01Is.f (k : Nat) (a0_0 : Int) (a0_1 : Int) (l0_2 : List (S89)) : Option (Bool) := (spec_l01Sizes.f a0_0 a0_1).bind fun t168 => (if t168 = true then (spec_l01Is.l0 k 0 a0_0 a0_1 l0_2) else (some false))
theorem spec_l01Is.mono_l : ∀ k, (∀ y0 y1 y2 y3, LeO (spec_l01Is.l0 k y0 y1 y2 y3) (spec_l01Is.l0 (k + 1) y0 y1 y2 y3)) ∧ (∀ y0 y1 y2 y3 y4 y5 y6 y7, LeO (spec_l01Is.j1 k y0 y1 y2 y3 y4 y5 y6 y7) (spec_l01Is.j1 (k + 1) y0 y1 y2 y3 y4 y5 y6 y7))
  | 0 => ⟨fun _ _ _ _ r h => by simp [spec_l01Is.l0] at h, fun _ _ _ _ _ _ _ _ r h => by simp [spec_l01Is.j1] at h⟩
  | k + 1 => by
    obtain ⟨ih0, ih1⟩ := spec_l01Is.mono_l k
    refine ⟨?_, ?_⟩
    · intro y0 y1 y2 y3
      unfold spec_l01Is.l0
      repeat' first
      | (with_reducible exact ih0 _ _ _ _)
      | (with_reducible exact ih1 _ _ _ _ _ _ _ _)
      | (with_reducible exact spec_l01IsFrac.mono _ _ _)
      | (with_reducible exact spec_l01Word.mono _ _ _)
      | (with_reducible exact LeO.refl _)
      | (with_reducible exact LeO.none _)
      | (with_reducible refine LeO.ite ?_ ?_)
      | (with_reducible refine LeO.bind ?_ (fun _ => ?_))
    · intro y0 y1 y2 y3 y4 y5 y6 y7
      unfold spec_l01Is.j1
      repeat' first
      | (with_reducible exact ih0 _ _ _ _)
      | (with_reducible exact ih1 _ _ _ _ _ _ _ _)
      | (with_reducible exact spec_l01IsFrac.mono _ _ _)
      | (with_reducible exact spec_l01Word.mono _ _ _)
      | (with_reducible exact LeO.refl _)
      | (with_reducible exact LeO.none _)
      | (with_reducible refine LeO.ite ?_ ?_)
      | (with_reducible refine LeO.bind ?_ (fun _ => ?_))
theorem spec_l01Is.mono : ∀ a0 a1 a2 k, LeO (spec_l01Is.f k a0 a1 a2) (spec_l01Is.f (k + 1) a0 a1 a2) := by
  intro a0 a1 a2 k
  obtain ⟨ih0, ih1⟩ := spec_l01Is.mono_l k
  unfold spec_l01Is.f
  repeat' first
      | (with_reducible exact ih0 _ _ _ _)
      | (with_reducible exact ih1 _ _ _ _ _ _ _ _)
      | (with_reducible exact spec_l01IsFrac.mono _ _ _)
      | (with_reducible exact spec_l01Word.mono _ _ _)
      | (with_reducible exact LeO.refl _)
      | (with_reducible exact LeO.none _)
      | (with_reducible refine LeO.ite ?_ ?_)
      | (with_reducible refine LeO.bind ?_ (fun _ => ?_))
set_option maxHeartbeats 8000000 in
set_option maxRecDepth 100000 in
theorem spec_l01Is.calls (k : Nat) (a0_0 : Int) (a0_1 : Int) (A0_2 : Option Addr) (c0_2 : Nat) (l0_2 : List (S89)) (r : Bool) (w : World) (hr0_2 : Kd.C k89 w A0_2 l0_2.length l0_2) (hc0_2 : l0_2.length ≤ c0_2) (h : spec_l01Is.f k a0_0 a0_1 l0_2 = some r) :
    Calls Try.prog 52 #[.agg #[.int .i64 a0_0, .int .i64 a0_1, .slice A0_2 l0_2.length c0_2]] w fun e w' => e = .returned (.bool r) ∧ Below w.heap.size w w' := by
  have hu32 := Try.underlying32
  have hu89 := Try.underlying89
  have hu27 := Try.underlying27
  have HR0_2 := Aside0.mk hr0_2
  have HC0_2 := Aside0.mk hc0_2
  clear hr0_2 hc0_2
  have HB := Aside0.mk (Below.refl w.heap.size w)
  have H : ((spec_l01Sizes.f a0_0 a0_1).bind fun t168 => (if t168 = true then (spec_l01Is.l0 k 0 a0_0 a0_1 l0_2) else (some false))) = some r := h
  clear h
  replace H := Option.bind_eq_some_iff.mp H
  obtain ⟨t168, A20, H⟩ := H
  replace H : (if t168 = true then (spec_l01Is.l0 k 0 a0_0 a0_1 l0_2) else (some false)) = some r := H
  have A2 := Aside0.mk A20
  clear A20
  by_cases c3 : t168 = true
  · subst c3
    have H1 : (spec_l01Is.l0 k 0 a0_0 a0_1 l0_2) = some r := by rw [if_pos rfl] at H; exact H
    clear H
    have H := H1
    clear H1
    have H' := Aside0.mk H
    clear H
    go_enter Try.func52, Try.ntmps52
    go_wp2_with (first | ((with_reducible refine gate_dst (N := 1) rfl ?_); refine box_event ?hg (N := 1) ?hd (cs := #[.int .i64 a0_0, .int .i64 a0_1, .slice A0_2 l0_2.length c0_2]) (t := 32) ?hr ?_; (case hd => rfl); (case hg => rfl); (case hr => first | (go_simp; done) | (go_simp; rfl)); intro gb167 hg w4 hbox hb; have n0_ := Aside0.mk (below_step zB hb); have n1_ := Aside0.mk (hbox); have n2_ := Aside0.mk (zG : w.heap.size ≤ gb167); have n3_ := Aside0.mk (zG : w.heap.size ≤ gb167); clear HB; have HB := n0_; have BK167 := n1_; have GW167 := n2_; have GE167 := n3_; clear n0_ n1_ n2_ n3_; clear hb hbox hg; have hcz5_0 : w4.cell? ⟨gb167, 0, none⟩ = some (.int .i64 a0_0) := zE BK167; have hcz5_1 : w4.cell? ⟨gb167, 1, none⟩ = some (.int .i64 a0_1) := zE BK167; have hcz5_2 : w4.cell? ⟨gb167, 2, none⟩ = some (.slice A0_2 l0_2.length c0_2) := zE BK167; have hfz5_0 := blk_frozen BK167.out 0; have hfz5_1 := blk_frozen BK167.out 1; have hfz5_2 := blk_frozen BK167.out 2) | (go_at_call 98; (with_reducible refine (spec_l01Sizes.calls a0_0 a0_1 true _ A2.out).mono ?_); rintro e w' ⟨rfl, ⟨nd, rfl⟩⟩; (try first | exact ⟨rfl, _, World.drewN_drewN _ _ _⟩ | exact ⟨rfl, _, Eq.trans (World.drewN_drewN _ _ _) (congrArg (World.drewN _) (Nat.add_assoc _ _ _))⟩)))
    repeat (go_quiet (first | ((with_reducible refine gate_dst (N := 1) rfl ?_); refine box_event ?hg (N := 1) ?hd (cs := #[.int .i64 a0_0, .int .i64 a0_1, .slice A0_2 l0_2.length c0_2]) (t := 32) ?hr ?_; (case hd => rfl); (case hg => rfl); (case hr => first | (go_simp; done) | (go_simp; rfl)); intro gb167 hg w4 hbox hb; have n0_ := Aside0.mk (below_step zB hb); have n1_ := Aside0.mk (hbox); have n2_ := Aside0.mk (zG : w.heap.size ≤ gb167); have n3_ := Aside0.mk (zG : w.heap.size ≤ gb167); clear HB; have HB := n0_; have BK167 := n1_; have GW167 := n2_; have GE167 := n3_; clear n0_ n1_ n2_ n3_; clear hb hbox hg; have hcz5_0 : w4.cell? ⟨gb167, 0, none⟩ = some (.int .i64 a0_0) := zE BK167; have hcz5_1 : w4.cell? ⟨gb167, 1, none⟩ = some (.int .i64 a0_1) := zE BK167; have hcz5_2 : w4.cell? ⟨gb167, 2, none⟩ = some (.slice A0_2 l0_2.length c0_2) := zE BK167; have hfz5_0 := blk_frozen BK167.out 0; have hfz5_1 := blk_frozen BK167.out 1; have hfz5_2 := blk_frozen BK167.out 2) | (go_at_call 98; (with_reducible refine (spec_l01Sizes.calls a0_0 a0_1 true _ A2.out).mono ?_); rintro e w' ⟨rfl, ⟨nd, rfl⟩⟩; (try first | exact ⟨rfl, _, World.drewN_drewN _ _ _⟩ | exact ⟨rfl, _, Eq.trans (World.drewN_drewN _ _ _) (congrArg (World.drewN _) (Nat.add_assoc _ _ _))⟩))); try go_wp2_with (first | ((with_reducible refine gate_dst (N := 1) rfl ?_); refine box_event ?hg (N := 1) ?hd (cs := #[.int .i64 a0_0, .int .i64 a0_1, .slice A0_2 l0_2.length c0_2]) (t := 32) ?hr ?_; (case hd => rfl); (case hg => rfl); (case hr => first | (go_simp; done) | (go_simp; rfl)); intro gb167 hg w4 hbox hb; have n0_ := Aside0.mk (below_step zB hb); have n1_ := Aside0.mk (hbox); have n2_ := Aside0.mk (zG : w.heap.size ≤ gb167); have n3_ := Aside0.mk (zG : w.heap.size ≤ gb167); clear HB; have HB := n0_; have BK167 := n1_; have GW167 := n2_; have GE167 := n3_; clear n0_ n1_ n2_ n3_; clear hb hbox hg; have hcz5_0 : w4.cell? ⟨gb167, 0, none⟩ = some (.int .i64 a0_0) := zE BK167; have hcz5_1 : w4.cell? ⟨gb167, 1, none⟩ = some (.int .i64 a0_1) := zE BK167; have hcz5_2 : w4.cell? ⟨gb167, 2, none⟩ = some (.slice A0_2 l0_2.length c0_2) := zE BK167; have hfz5_0 := blk_frozen BK167.out 0; have hfz5_1 := blk_frozen BK167.out 1; have hfz5_2 := blk_frozen BK167.out 2) | (go_at_call 98; (with_reducible refine (spec_l01Sizes.calls a0_0 a0_1 true _ A2.out).mono ?_); rintro e w' ⟨rfl, ⟨nd, rfl⟩⟩; (try first | exact ⟨rfl, _, World.drewN_drewN _ _ _⟩ | exact ⟨rfl, _, Eq.trans (World.drewN_drewN _ _ _) (congrArg (World.drewN _) (Nat.add_assoc _ _ _))⟩))))
    go_loopg [3] k (fun kq v3 w' => ∃ (x3_1 : Int), v3 = .int .i64 x3_1 ∧ Aside0 (spec_l01Is.l0 kq x3_1 a0_0 a0_1 l0_2 = some r) ∧ Aside0 (kq ≤ k) ∧ Aside0 (w'.heap[gb167]? = some (.cells #[.int .i64 a0_0, .int .i64 a0_1, (.slice A0_2 l0_2.length c0_2)] 32 (0, 0))) ∧ Aside0 (Below w.heap.size w w'))
    case atStart => exact ⟨(0), (by first | rfl | (simp; done) | (simp [*]; done)), H', ⟨Nat.le_refl _⟩, ⟨zK⟩, ⟨zB⟩⟩
    case round =>
      clear H'
      obtain ⟨x3_1, rfl, HA, HK1, BK167, HB⟩ := hrel
      cases gk with
      | zero => exact absurd HA.out (by simp [spec_l01Is.l0])
      | succ k1 =>
        have H := HA.out
        clear HA
        simp only [spec_l01Is.l0] at H
        by_cases c6 : x3_1 < (l0_2.length : Int)
        · rw [if_pos c6] at H
          have c6b0 : decide (x3_1 < (l0_2.length : Int)) = true := decide_eq_true c6
          clear c6
          by_cases c7 : 0 ≤ x3_1
          · rw [if_pos c7] at H
            have c7b0 : decide (0 ≤ x3_1) = true := decide_eq_true c7
            clear c7
            have HC8 := Aside0.mk H
            clear H
            have hcz9_0 : wr.cell? ⟨gb167, 0, none⟩ = some (.int .i64 a0_0) := zE BK167
            have hcz9_1 : wr.cell? ⟨gb167, 1, none⟩ = some (.int .i64 a0_1) := zE BK167
            have hcz9_2 : wr.cell? ⟨gb167, 2, none⟩ = some (.slice A0_2 l0_2.length c0_2) := zE BK167
            have hfz9_0 := blk_frozen BK167.out 0
            have hfz9_1 := blk_frozen BK167.out 1
            have hfz9_2 := blk_frozen BK167.out 2
            have p169 : 0 ≤ (x3_1 : Int) := zD
            have q169 : x3_1 < (l0_2.length : Int) := zD
            obtain ⟨ad169, e169, hx169_0, hx169_1, hx169_2⟩ := at_T89 HR0_2.out x3_1 p169 q169
            cases e169
            replace hx169_0 := zH HB hx169_0
            replace hx169_1 := zH HB hx169_1
            replace hx169_2 := zH HB hx169_2
            replace p169 := eq_true p169
            replace q169 := eq_true q169
            go_upto_region 7 with (first | ((with_reducible refine gate_dst (N := 4) rfl ?_); refine box_event ?hg (N := 4) ?hd (cs := #[.string (⟨#[]⟩ : ByteArray), .int .i64 0, .int .i64 0]) (t := 89) ?hr ?_; (case hd => rfl); (case hg => rfl); (case hr => first | (go_simp; done) | (go_simp; rfl)); intro gb170 hg w10 hbox hb; have n0_ := Aside0.mk (blk_below (g := gb167) (o := .cells #[.int .i64 a0_0, .int .i64 a0_1, .slice (some ad169) l0_2.length c0_2] 32 (0, 0)) zK hb); have n1_ := Aside0.mk (below_step zB hb); have n2_ := Aside0.mk (hbox); have n3_ := Aside0.mk (zG : w.heap.size ≤ gb170); have n4_ := Aside0.mk (zG : w.heap.size ≤ gb170); have n5_ := Aside0.mk ((by rw [hg]; exact Nat.ne_of_lt (blk_lt (g := gb167) (o := .cells #[.int .i64 a0_0, .int .i64 a0_1, .slice (some ad169) l0_2.length c0_2] 32 (0, 0)) zK) : gb167 ≠ gb170)); have n6_ := Aside0.mk ((by rw [hg]; exact Nat.ne_of_gt (blk_lt (g := gb167) (o := .cells #[.int .i64 a0_0, .int .i64 a0_1, .slice (some ad169) l0_2.length c0_2] 32 (0, 0)) zK) : gb170 ≠ gb167)); clear BK167; clear HB; have BK167 := n0_; have HB := n1_; have BK170 := n2_; have GW170 := n3_; have GE170 := n4_; have NB167_170 := n5_; have NB170_167 := n6_; clear n0_ n1_ n2_ n3_ n4_ n5_ n6_; clear hb hbox hg; have hnb11 := NB170_167.out; have hnc11 := NB167_170.out; have hcz12_0 : w10.cell? ⟨gb170, 0, none⟩ = some (.string (⟨#[]⟩ : ByteArray)) := zE BK170; have hcz12_1 : w10.cell? ⟨gb170, 1, none⟩ = some (.int .i64 0) := zE BK170; have hcz12_2 : w10.cell? ⟨gb170, 2, none⟩ = some (.int .i64 0) := zE BK170; have hfz12_0 := blk_frozen BK170.out 0; have hfz12_1 := blk_frozen BK170.out 1; have hfz12_2 := blk_frozen BK170.out 2))
            repeat (go_quiet (first | ((with_reducible refine gate_dst (N := 4) rfl ?_); refine box_event ?hg (N := 4) ?hd (cs := #[.string (⟨#[]⟩ : ByteArray), .int .i64 0, .int .i64 0]) (t := 89) ?hr ?_; (case hd => rfl); (case hg => rfl); (case hr => first | (go_simp; done) | (go_simp; rfl)); intro gb170 hg w10 hbox hb; have n0_ := Aside0.mk (blk_below (g := gb167) (o := .cells #[.int .i64 a0_0, .int .i64 a0_1, .slice (some ad169) l0_2.length c0_2] 32 (0, 0)) zK hb); have n1_ := Aside0.mk (below_step zB hb); have n2_ := Aside0.mk (hbox); have n3_ := Aside0.mk (zG : w.heap.size ≤ gb170); have n4_ := Aside0.mk (zG : w.heap.size ≤ gb170); have n5_ := Aside0.mk ((by rw [hg]; exact Nat.ne_of_lt (blk_lt (g := gb167) (o := .cells #[.int .i64 a0_0, .int .i64 a0_1, .slice (some ad169) l0_2.length c0_2] 32 (0, 0)) zK) : gb167 ≠ gb170)); have n6_ := Aside0.mk ((by rw [hg]; exact Nat.ne_of_gt (blk_lt (g := gb167) (o := .cells #[.int .i64 a0_0, .int .i64 a0_1, .slice (some ad169) l0_2.length c0_2] 32 (0, 0)) zK) : gb170 ≠ gb167)); clear BK167; clear HB; have BK167 := n0_; have HB := n1_; have BK170 := n2_; have GW170 := n3_; have GE170 := n4_; have NB167_170 := n5_; have NB170_167 := n6_; clear n0_ n1_ n2_ n3_ n4_ n5_ n6_; clear hb hbox hg; have hnb11 := NB170_167.out; have hnc11 := NB167_170.out; have hcz12_0 : w10.cell? ⟨gb170, 0, none⟩ = some (.string (⟨#[]⟩ : ByteArray)) := zE BK170; have hcz12_1 : w10.cell? ⟨gb170, 1, none⟩ = some (.int .i64 0) := zE BK170; have hcz12_2 : w10.cell? ⟨gb170, 2, none⟩ = some (.int .i64 0) := zE BK170; have hfz12_0 := blk_frozen BK170.out 0; have hfz12_1 := blk_frozen BK170.out 1; have hfz12_2 := blk_frozen BK170.out 2)); go_upto_region 7 with (first | ((with_reducible refine gate_dst (N := 4) rfl ?_); refine box_event ?hg (N := 4) ?hd (cs := #[.string (⟨#[]⟩ : ByteArray), .int .i64 0, .int .i64 0]) (t := 89) ?hr ?_; (case hd => rfl); (case hg => rfl); (case hr => first | (go_simp; done) | (go_simp; rfl)); intro gb170 hg w10 hbox hb; have n0_ := Aside0.mk (blk_below (g := gb167) (o := .cells #[.int .i64 a0_0, .int .i64 a0_1, .slice (some ad169) l0_2.length c0_2] 32 (0, 0)) zK hb); have n1_ := Aside0.mk (below_step zB hb); have n2_ := Aside0.mk (hbox); have n3_ := Aside0.mk (zG : w.heap.size ≤ gb170); have n4_ := Aside0.mk (zG : w.heap.size ≤ gb170); have n5_ := Aside0.mk ((by rw [hg]; exact Nat.ne_of_lt (blk_lt (g := gb167) (o := .cells #[.int .i64 a0_0, .int .i64 a0_1, .slice (some ad169) l0_2.length c0_2] 32 (0, 0)) zK) : gb167 ≠ gb170)); have n6_ := Aside0.mk ((by rw [hg]; exact Nat.ne_of_gt (blk_lt (g := gb167) (o := .cells #[.int .i64 a0_0, .int .i64 a0_1, .slice (some ad169) l0_2.length c0_2] 32 (0, 0)) zK) : gb170 ≠ gb167)); clear BK167; clear HB; have BK167 := n0_; have HB := n1_; have BK170 := n2_; have GW170 := n3_; have GE170 := n4_; have NB167_170 := n5_; have NB170_167 := n6_; clear n0_ n1_ n2_ n3_ n4_ n5_ n6_; clear hb hbox hg; have hnb11 := NB170_167.out; have hnc11 := NB167_170.out; have hcz12_0 : w10.cell? ⟨gb170, 0, none⟩ = some (.string (⟨#[]⟩ : ByteArray)) := zE BK170; have hcz12_1 : w10.cell? ⟨gb170, 1, none⟩ = some (.int .i64 0) := zE BK170; have hcz12_2 : w10.cell? ⟨gb170, 2, none⟩ = some (.int .i64 0) := zE BK170; have hfz12_0 := blk_frozen BK170.out 0; have hfz12_1 := blk_frozen BK170.out 1; have hfz12_2 := blk_frozen BK170.out 2)))
            (try simp only [Act.put, List.setIfInBounds_toArray, List.set_cons_zero, List.set_cons_succ])
            go_cut [47] (fun v47 wc => ∃ (kq : Nat) (x47_7 : Bool), v47 = .bool x47_7 ∧ Aside0 (spec_l01Is.j1 kq x3_1 x47_7 a0_0 a0_1 l0_2 ((rd_T89 l0_2 x3_1).f0) ((rd_T89 l0_2 x3_1).f1.f0) ((rd_T89 l0_2 x3_1).f1.f1) = some r) ∧ Aside0 (kq ≤ k1) ∧ Aside0 (wc.heap[gb167]? = some (.cells #[.int .i64 a0_0, .int .i64 a0_1, (.slice (some ad169) l0_2.length c0_2)] 32 (0, 0))) ∧ Aside0 (wc.heap[gb170]? = some (.cells #[.string ((rd_T89 l0_2 x3_1).f0), .int .i64 ((rd_T89 l0_2 x3_1).f1.f0), .int .i64 ((rd_T89 l0_2 x3_1).f1.f1)] 89 (0, 0))) ∧ Aside0 (Below w.heap.size w wc))
            case first =>
             have H := HC8.out
             clear HC8
             by_cases c13 : (((rd_T89 l0_2 x3_1).f0).size : Int) > a0_1
             ·rw [if_pos c13] at H
              have c13b0 : decide (a0_1 < (((rd_T89 l0_2 x3_1).f0).size : Int)) = true := decide_eq_true c13
              clear c13
              (first | rw [c13b0] | (simp only [i64_w, i32_w]; rw [c13b0]) | skip)
              have H' := Aside0.mk H
              clear H
              have hnb14 := NB170_167.out
              have hnc14 := NB167_170.out
              have hcz15_0 : w10.cell? ⟨gb170, 0, none⟩ = some (.string (⟨#[]⟩ : ByteArray)) := zE BK170
              have hcz15_1 : w10.cell? ⟨gb170, 1, none⟩ = some (.int .i64 0) := zE BK170
              have hcz15_2 : w10.cell? ⟨gb170, 2, none⟩ = some (.int .i64 0) := zE BK170
              have hfz15_0 := blk_frozen BK170.out 0
              have hfz15_1 := blk_frozen BK170.out 1
              have hfz15_2 := blk_frozen BK170.out 2
              have hcz16_0 : w10.cell? ⟨gb167, 0, none⟩ = some (.int .i64 a0_0) := zE BK167
              have hcz16_1 : w10.cell? ⟨gb167, 1, none⟩ = some (.int .i64 a0_1) := zE BK167
              have hcz16_2 : w10.cell? ⟨gb167, 2, none⟩ = some (.slice (some ad169) l0_2.length c0_2) := zE BK167
              have hfz16_0 := blk_frozen BK167.out 0
              have hfz16_1 := blk_frozen BK167.out 1
              have hfz16_2 := blk_frozen BK167.out 2
              go_wp2
              repeat (go_quiet (fail); try go_wp2)
              go_meet
              case rel => exact ⟨_, (true), (by first | rfl | (simp; done) | (simp [*]; done)), H', ⟨by have := HK1.out; first | omega | exact Nat.le_refl _⟩, ⟨by (with_reducible repeat (first | refine blk_drewN ?_ _ | refine blk_drew ?_ | refine blk_alloc ?_ _)); refine blk_far ?_ NB167_170.out _; (with_reducible repeat (first | refine blk_drewN ?_ _ | refine blk_drew ?_ | refine blk_alloc ?_ _)); refine blk_far ?_ NB167_170.out _; (with_reducible repeat (first | refine blk_drewN ?_ _ | refine blk_drew ?_ | refine blk_alloc ?_ _)); refine blk_far ?_ NB167_170.out _; (with_reducible repeat (first | refine blk_drewN ?_ _ | refine blk_drew ?_ | refine blk_alloc ?_ _)); exact BK167.out⟩, ⟨by (with_reducible repeat (first | refine blk_drewN ?_ _ | refine blk_drew ?_ | refine blk_alloc ?_ _)); refine blk_put (cs := #[.string ((rd_T89 l0_2 x3_1).f0), .int .i64 ((rd_T89 l0_2 x3_1).f1.f0), .int .i64 0]) ?_ 2 _ rfl; (with_reducible repeat (first | refine blk_drewN ?_ _ | refine blk_drew ?_ | refine blk_alloc ?_ _)); refine blk_put (cs := #[.string ((rd_T89 l0_2 x3_1).f0), .int .i64 0, .int .i64 0]) ?_ 1 _ rfl; (with_reducible repeat (first | refine blk_drewN ?_ _ | refine blk_drew ?_ | refine blk_alloc ?_ _)); refine blk_put (cs := #[.string (⟨#[]⟩ : ByteArray), .int .i64 0, .int .i64 0]) ?_ 0 _ rfl; (with_reducible repeat (first | refine blk_drewN ?_ _ | refine blk_drew ?_ | refine blk_alloc ?_ _)); exact BK170.out⟩, ⟨zB⟩⟩
             ·rw [if_neg c13] at H
              have c13b0 : decide (a0_1 < (((rd_T89 l0_2 x3_1).f0).size : Int)) = false := decide_eq_false c13
              clear c13
              (first | rw [c13b0] | (simp only [i64_w, i32_w]; rw [c13b0]) | skip)
              replace H := Option.bind_eq_some_iff.mp H
              obtain ⟨t171, A170, H⟩ := H
              replace H : (if t171 = true then ((spec_l01IsFrac.f k1 ((rd_T89 l0_2 x3_1).f1.f0) ((rd_T89 l0_2 x3_1).f1.f1)).bind fun t172 => (if t172 = true then ((spec_l01Zero.f ((rd_T89 l0_2 x3_1).f1.f0) ((rd_T89 l0_2 x3_1).f1.f1)).bind fun t173 => (spec_l01Is.j1 k1 x3_1 t173 a0_0 a0_1 l0_2 ((rd_T89 l0_2 x3_1).f0) ((rd_T89 l0_2 x3_1).f1.f0) ((rd_T89 l0_2 x3_1).f1.f1))) else (spec_l01Is.j1 k1 x3_1 true a0_0 a0_1 l0_2 ((rd_T89 l0_2 x3_1).f0) ((rd_T89 l0_2 x3_1).f1.f0) ((rd_T89 l0_2 x3_1).f1.f1)))) else (spec_l01Is.j1 k1 x3_1 true a0_0 a0_1 l0_2 ((rd_T89 l0_2 x3_1).f0) ((rd_T89 l0_2 x3_1).f1.f0) ((rd_T89 l0_2 x3_1).f1.f1))) = some r := H
              have A17 := Aside0.mk A170
              clear A170
              by_cases c18 : t171 = true
              ·subst c18
               have H1 : ((spec_l01IsFrac.f k1 ((rd_T89 l0_2 x3_1).f1.f0) ((rd_T89 l0_2 x3_1).f1.f1)).bind fun t172 => (if t172 = true then ((spec_l01Zero.f ((rd_T89 l0_2 x3_1).f1.f0) ((rd_T89 l0_2 x3_1).f1.f1)).bind fun t173 => (spec_l01Is.j1 k1 x3_1 t173 a0_0 a0_1 l0_2 ((rd_T89 l0_2 x3_1).f0) ((rd_T89 l0_2 x3_1).f1.f0) ((rd_T89 l0_2 x3_1).f1.f1))) else (spec_l01Is.j1 k1 x3_1 true a0_0 a0_1 l0_2 ((rd_T89 l0_2 x3_1).f0) ((rd_T89 l0_2 x3_1).f1.f0) ((rd_T89 l0_2 x3_1).f1.f1)))) = some r := by rw [if_pos rfl] at H; exact H
               clear H
               have H := H1
               clear H1
               replace H := Option.bind_eq_some_iff.mp H
               obtain ⟨t172, A190, H⟩ := H
               replace H : (if t172 = true then ((spec_l01Zero.f ((rd_T89 l0_2 x3_1).f1.f0) ((rd_T89 l0_2 x3_1).f1.f1)).bind fun t173 => (spec_l01Is.j1 k1 x3_1 t173 a0_0 a0_1 l0_2 ((rd_T89 l0_2 x3_1).f0) ((rd_T89 l0_2 x3_1).f1.f0) ((rd_T89 l0_2 x3_1).f1.f1))) else (spec_l01Is.j1 k1 x3_1 true a0_0 a0_1 l0_2 ((rd_T89 l0_2 x3_1).f0) ((rd_T89 l0_2 x3_1).f1.f0) ((rd_T89 l0_2 x3_1).f1.f1))) = some r := H
               have A19 := Aside0.mk A190
               clear A190
               by_cases c20 : t172 = true
               ·subst c20
                have H1 : ((spec_l01Zero.f ((rd_T89 l0_2 x3_1).f1.f0) ((rd_T89 l0_2 x3_1).f1.f1)).bind fun t173 => (spec_l01Is.j1 k1 x3_1 t173 a0_0 a0_1 l0_2 ((rd_T89 l0_2 x3_1).f0) ((rd_T89 l0_2 x3_1).f1.f0) ((rd_T89 l0_2 x3_1).f1.f1))) = some r := by rw [if_pos rfl] at H; exact H
                clear H
                have H := H1
                clear H1
                replace H := Option.bind_eq_some_iff.mp H
                obtain ⟨t173, A210, H⟩ := H
                replace H : (spec_l01Is.j1 k1 x3_1 t173 a0_0 a0_1 l0_2 ((rd_T89 l0_2 x3_1).f0) ((rd_T89 l0_2 x3_1).f1.f0) ((rd_T89 l0_2 x3_1).f1.f1)) = some r := H
                have A21 := Aside0.mk A210
                clear A210
                have H' := Aside0.mk H
                clear H
                have hnb22 := NB170_167.out
                have hnc22 := NB167_170.out
                have hcz23_0 : w10.cell? ⟨gb170, 0, none⟩ = some (.string (⟨#[]⟩ : ByteArray)) := zE BK170
                have hcz23_1 : w10.cell? ⟨gb170, 1, none⟩ = some (.int .i64 0) := zE BK170
                have hcz23_2 : w10.cell? ⟨gb170, 2, none⟩ = some (.int .i64 0) := zE BK170
                have hfz23_0 := blk_frozen BK170.out 0
                have hfz23_1 := blk_frozen BK170.out 1
                have hfz23_2 := blk_frozen BK170.out 2
                have hcz24_0 : w10.cell? ⟨gb167, 0, none⟩ = some (.int .i64 a0_0) := zE BK167
                have hcz24_1 : w10.cell? ⟨gb167, 1, none⟩ = some (.int .i64 a0_1) := zE BK167
                have hcz24_2 : w10.cell? ⟨gb167, 2, none⟩ = some (.slice (some ad169) l0_2.length c0_2) := zE BK167
                have hfz24_0 := blk_frozen BK167.out 0
                have hfz24_1 := blk_frozen BK167.out 1
                have hfz24_2 := blk_frozen BK167.out 2
                go_wp2_with (first | (go_at_call 53; (with_reducible refine (spec_l01Word.calls k1 a0_0 ((rd_T89 l0_2 x3_1).f0) true _ A17.out).mono ?_); rintro e w' ⟨rfl, ⟨nd, rfl⟩⟩; (try first | exact ⟨rfl, _, World.drewN_drewN _ _ _⟩ | exact ⟨rfl, _, Eq.trans (World.drewN_drewN _ _ _) (congrArg (World.drewN _) (Nat.add_assoc _ _ _))⟩)) | (go_at_call 103; (with_reducible refine (spec_l01IsFrac.calls k1 ((rd_T89 l0_2 x3_1).f1.f0) ((rd_T89 l0_2 x3_1).f1.f1) true _ A19.out).mono ?_); rintro e w25 ⟨rfl, hb⟩; have n0_ := Aside0.mk (blk_below (g := gb167) (o := .cells #[.int .i64 a0_0, .int .i64 a0_1, .slice (some ad169) l0_2.length c0_2] 32 (0, 0)) (by (with_reducible repeat (first | refine blk_drewN ?_ _ | refine blk_drew ?_ | refine blk_alloc ?_ _)); refine blk_far ?_ NB167_170.out _; (with_reducible repeat (first | refine blk_drewN ?_ _ | refine blk_drew ?_ | refine blk_alloc ?_ _)); refine blk_far ?_ NB167_170.out _; (with_reducible repeat (first | refine blk_drewN ?_ _ | refine blk_drew ?_ | refine blk_alloc ?_ _)); refine blk_far ?_ NB167_170.out _; exact zK) hb); have n1_ := Aside0.mk (blk_below (g := gb170) (o := .cells #[.string ((rd_T89 l0_2 x3_1).f0), .int .i64 ((rd_T89 l0_2 x3_1).f1.f0), .int .i64 ((rd_T89 l0_2 x3_1).f1.f1)] 89 (0, 0)) (by (with_reducible repeat (first | refine blk_drewN ?_ _ | refine blk_drew ?_ | refine blk_alloc ?_ _)); refine blk_put (cs := #[.string ((rd_T89 l0_2 x3_1).f0), .int .i64 ((rd_T89 l0_2 x3_1).f1.f0), .int .i64 0]) ?_ 2 _ rfl; (with_reducible repeat (first | refine blk_drewN ?_ _ | refine blk_drew ?_ | refine blk_alloc ?_ _)); refine blk_put (cs := #[.string ((rd_T89 l0_2 x3_1).f0), .int .i64 0, .int .i64 0]) ?_ 1 _ rfl; (with_reducible repeat (first | refine blk_drewN ?_ _ | refine blk_drew ?_ | refine blk_alloc ?_ _)); refine blk_put (cs := #[.string (⟨#[]⟩ : ByteArray), .int .i64 0, .int .i64 0]) ?_ 0 _ rfl; exact zK) hb); have n2_ := Aside0.mk (below_step zB hb); clear BK167; clear BK170; clear HB; have BK167 := n0_; have BK170 := n1_; have HB := n2_; clear n0_ n1_ n2_; (try clear hb); (try clear hb2); (try clear hk); (try clear hi); have hcz26_0 : w25.cell? ⟨gb170, 0, none⟩ = some (.string ((rd_T89 l0_2 x3_1).f0)) := zE BK170; have hcz26_1 : w25.cell? ⟨gb170, 1, none⟩ = some (.int .i64 ((rd_T89 l0_2 x3_1).f1.f0)) := zE BK170; have hcz26_2 : w25.cell? ⟨gb170, 2, none⟩ = some (.int .i64 ((rd_T89 l0_2 x3_1).f1.f1)) := zE BK170; have hfz26_0 := blk_frozen BK170.out 0; have hfz26_1 := blk_frozen BK170.out 1; have hfz26_2 := blk_frozen BK170.out 2) | (go_at_call 104; (with_reducible refine (spec_l01Zero.calls ((rd_T89 l0_2 x3_1).f1.f0) ((rd_T89 l0_2 x3_1).f1.f1) t173 _ A21.out).mono ?_); rintro e w27 ⟨rfl, hb⟩; have n0_ := Aside0.mk (blk_below (g := gb167) (o := .cells #[.int .i64 a0_0, .int .i64 a0_1, .slice (some ad169) l0_2.length c0_2] 32 (0, 0)) zK hb); have n1_ := Aside0.mk (blk_below (g := gb170) (o := .cells #[.string ((rd_T89 l0_2 x3_1).f0), .int .i64 ((rd_T89 l0_2 x3_1).f1.f0), .int .i64 ((rd_T89 l0_2 x3_1).f1.f1)] 89 (0, 0)) zK hb); have n2_ := Aside0.mk (below_step zB hb); clear BK167; clear BK170; clear HB; have BK167 := n0_; have BK170 := n1_; have HB := n2_; clear n0_ n1_ n2_; (try clear hb); (try clear hb2); (try clear hk); (try clear hi)))
                repeat (go_quiet (first | (go_at_call 53; (with_reducible refine (spec_l01Word.calls k1 a0_0 ((rd_T89 l0_2 x3_1).f0) true _ A17.out).mono ?_); rintro e w' ⟨rfl, ⟨nd, rfl⟩⟩; (try first | exact ⟨rfl, _, World.drewN_drewN _ _ _⟩ | exact ⟨rfl, _, Eq.trans (World.drewN_drewN _ _ _) (congrArg (World.drewN _) (Nat.add_assoc _ _ _))⟩)) | (go_at_call 103; (with_reducible refine (spec_l01IsFrac.calls k1 ((rd_T89 l0_2 x3_1).f1.f0) ((rd_T89 l0_2 x3_1).f1.f1) true _ A19.out).mono ?_); rintro e w25 ⟨rfl, hb⟩; have n0_ := Aside0.mk (blk_below (g := gb167) (o := .cells #[.int .i64 a0_0, .int .i64 a0_1, .slice (some ad169) l0_2.length c0_2] 32 (0, 0)) (by (with_reducible repeat (first | refine blk_drewN ?_ _ | refine blk_drew ?_ | refine blk_alloc ?_ _)); refine blk_far ?_ NB167_170.out _; (with_reducible repeat (first | refine blk_drewN ?_ _ | refine blk_drew ?_ | refine blk_alloc ?_ _)); refine blk_far ?_ NB167_170.out _; (with_reducible repeat (first | refine blk_drewN ?_ _ | refine blk_drew ?_ | refine blk_alloc ?_ _)); refine blk_far ?_ NB167_170.out _; exact zK) hb); have n1_ := Aside0.mk (blk_below (g := gb170) (o := .cells #[.string ((rd_T89 l0_2 x3_1).f0), .int .i64 ((rd_T89 l0_2 x3_1).f1.f0), .int .i64 ((rd_T89 l0_2 x3_1).f1.f1)] 89 (0, 0)) (by (with_reducible repeat (first | refine blk_drewN ?_ _ | refine blk_drew ?_ | refine blk_alloc ?_ _)); refine blk_put (cs := #[.string ((rd_T89 l0_2 x3_1).f0), .int .i64 ((rd_T89 l0_2 x3_1).f1.f0), .int .i64 0]) ?_ 2 _ rfl; (with_reducible repeat (first | refine blk_drewN ?_ _ | refine blk_drew ?_ | refine blk_alloc ?_ _)); refine blk_put (cs := #[.string ((rd_T89 l0_2 x3_1).f0), .int .i64 0, .int .i64 0]) ?_ 1 _ rfl; (with_reducible repeat (first | refine blk_drewN ?_ _ | refine blk_drew ?_ | refine blk_alloc ?_ _)); refine blk_put (cs := #[.string (⟨#[]⟩ : ByteArray), .int .i64 0, .int .i64 0]) ?_ 0 _ rfl; exact zK) hb); have n2_ := Aside0.mk (below_step zB hb); clear BK167; clear BK170; clear HB; have BK167 := n0_; have BK170 := n1_; have HB := n2_; clear n0_ n1_ n2_; (try clear hb); (try clear hb2); (try clear hk); (try clear hi); have hcz26_0 : w25.cell? ⟨gb170, 0, none⟩ = some (.string ((rd_T89 l0_2 x3_1).f0)) := zE BK170; have hcz26_1 : w25.cell? ⟨gb170, 1, none⟩ = some (.int .i64 ((rd_T89 l0_2 x3_1).f1.f0)) := zE BK170; have hcz26_2 : w25.cell? ⟨gb170, 2, none⟩ = some (.int .i64 ((rd_T89 l0_2 x3_1).f1.f1)) := zE BK170; have hfz26_0 := blk_frozen BK170.out 0; have hfz26_1 := blk_frozen BK170.out 1; have hfz26_2 := blk_frozen BK170.out 2) | (go_at_call 104; (with_reducible refine (spec_l01Zero.calls ((rd_T89 l0_2 x3_1).f1.f0) ((rd_T89 l0_2 x3_1).f1.f1) t173 _ A21.out).mono ?_); rintro e w27 ⟨rfl, hb⟩; have n0_ := Aside0.mk (blk_below (g := gb167) (o := .cells #[.int .i64 a0_0, .int .i64 a0_1, .slice (some ad169) l0_2.length c0_2] 32 (0, 0)) zK hb); have n1_ := Aside0.mk (blk_below (g := gb170) (o := .cells #[.string ((rd_T89 l0_2 x3_1).f0), .int .i64 ((rd_T89 l0_2 x3_1).f1.f0), .int .i64 ((rd_T89 l0_2 x3_1).f1.f1)] 89 (0, 0)) zK hb); have n2_ := Aside0.mk (below_step zB hb); clear BK167; clear BK170; clear HB; have BK167 := n0_; have BK170 := n1_; have HB := n2_; clear n0_ n1_ n2_; (try clear hb); (try clear hb2); (try clear hk); (try clear hi))); try go_wp2_with (first | (go_at_call 53; (with_reducible refine (spec_l01Word.calls k1 a0_0 ((rd_T89 l0_2 x3_1).f0) true _ A17.out).mono ?_); rintro e w' ⟨rfl, ⟨nd, rfl⟩⟩; (try first | exact ⟨rfl, _, World.drewN_drewN _ _ _⟩ | exact ⟨rfl, _, Eq.trans (World.drewN_drewN _ _ _) (congrArg (World.drewN _) (Nat.add_assoc _ _ _))⟩)) | (go_at_call 103; (with_reducible refine (spec_l01IsFrac.calls k1 ((rd_T89 l0_2 x3_1).f1.f0) ((rd_T89 l0_2 x3_1).f1.f1) true _ A19.out).mono ?_); rintro e w25 ⟨rfl, hb⟩; have n0_ := Aside0.mk (blk_below (g := gb167) (o := .cells #[.int .i64 a0_0, .int .i64 a0_1, .slice (some ad169) l0_2.length c0_2] 32 (0, 0)) (by (with_reducible repeat (first | refine blk_drewN ?_ _ | refine blk_drew ?_ | refine blk_alloc ?_ _)); refine blk_far ?_ NB167_170.out _; (with_reducible repeat (first | refine blk_drewN ?_ _ | refine blk_drew ?_ | refine blk_alloc ?_ _)); refine blk_far ?_ NB167_170.out _; (with_reducible repeat (first | refine blk_drewN ?_ _ | refine blk_drew ?_ | refine blk_alloc ?_ _)); refine blk_far ?_ NB167_170.out _; exact zK) hb); have n1_ := Aside0.mk (blk_below (g := gb170) (o := .cells #[.string ((rd_T89 l0_2 x3_1).f0), .int .i64 ((rd_T89 l0_2 x3_1).f1.f0), .int .i64 ((rd_T89 l0_2 x3_1).f1.f1)] 89 (0, 0)) (by (with_reducible repeat (first | refine blk_drewN ?_ _ | refine blk_drew ?_ | refine blk_alloc ?_ _)); refine blk_put (cs := #[.string ((rd_T89 l0_2 x3_1).f0), .int .i64 ((rd_T89 l0_2 x3_1).f1.f0), .int .i64 0]) ?_ 2 _ rfl; (with_reducible repeat (first | refine blk_drewN ?_ _ | refine blk_drew ?_ | refine blk_alloc ?_ _)); refine blk_put (cs := #[.string ((rd_T89 l0_2 x3_1).f0), .int .i64 0, .int .i64 0]) ?_ 1 _ rfl; (with_reducible repeat (first | refine blk_drewN ?_ _ | refine blk_drew ?_ | refine blk_alloc ?_ _)); refine blk_put (cs := #[.string (⟨#[]⟩ : ByteArray), .int .i64 0, .int .i64 0]) ?_ 0 _ rfl; exact zK) hb); have n2_ := Aside0.mk (below_step zB hb); clear BK167; clear BK170; clear HB; have BK167 := n0_; have BK170 := n1_; have HB := n2_; clear n0_ n1_ n2_; (try clear hb); (try clear hb2); (try clear hk); (try clear hi); have hcz26_0 : w25.cell? ⟨gb170, 0, none⟩ = some (.string ((rd_T89 l0_2 x3_1).f0)) := zE BK170; have hcz26_1 : w25.cell? ⟨gb170, 1, none⟩ = some (.int .i64 ((rd_T89 l0_2 x3_1).f1.f0)) := zE BK170; have hcz26_2 : w25.cell? ⟨gb170, 2, none⟩ = some (.int .i64 ((rd_T89 l0_2 x3_1).f1.f1)) := zE BK170; have hfz26_0 := blk_frozen BK170.out 0; have hfz26_1 := blk_frozen BK170.out 1; have hfz26_2 := blk_frozen BK170.out 2) | (go_at_call 104; (with_reducible refine (spec_l01Zero.calls ((rd_T89 l0_2 x3_1).f1.f0) ((rd_T89 l0_2 x3_1).f1.f1) t173 _ A21.out).mono ?_); rintro e w27 ⟨rfl, hb⟩; have n0_ := Aside0.mk (blk_below (g := gb167) (o := .cells #[.int .i64 a0_0, .int .i64 a0_1, .slice (some ad169) l0_2.length c0_2] 32 (0, 0)) zK hb); have n1_ := Aside0.mk (blk_below (g := gb170) (o := .cells #[.string ((rd_T89 l0_2 x3_1).f0), .int .i64 ((rd_T89 l0_2 x3_1).f1.f0), .int .i64 ((rd_T89 l0_2 x3_1).f1.f1)] 89 (0, 0)) zK hb); have n2_ := Aside0.mk (below_step zB hb); clear BK167; clear BK170; clear HB; have BK167 := n0_; have BK170 := n1_; have HB := n2_; clear n0_ n1_ n2_; (try clear hb); (try clear hb2); (try clear hk); (try clear hi))))
                go_meet
                case rel => exact ⟨_, (t173), (by first | rfl | (simp; done) | (simp [*]; done)), H', ⟨by have := HK1.out; first | omega | exact Nat.le_refl _⟩, ⟨zK⟩, ⟨zK⟩, ⟨zB⟩⟩
               ·replace c20 := Bool.eq_false_iff.mpr c20
                subst c20
                have H1 : (spec_l01Is.j1 k1 x3_1 true a0_0 a0_1 l0_2 ((rd_T89 l0_2 x3_1).f0) ((rd_T89 l0_2 x3_1).f1.f0) ((rd_T89 l0_2 x3_1).f1.f1)) = some r := by rw [if_neg (show ¬ (false = true) by decide)] at H; exact H
                clear H
                have H := H1
                clear H1
                have H' := Aside0.mk H
                clear H
                have hnb28 := NB170_167.out
                have hnc28 := NB167_170.out
                have hcz29_0 : w10.cell? ⟨gb170, 0, none⟩ = some (.string (⟨#[]⟩ : ByteArray)) := zE BK170
                have hcz29_1 : w10.cell? ⟨gb170, 1, none⟩ = some (.int .i64 0) := zE BK170
                have hcz29_2 : w10.cell? ⟨gb170, 2, none⟩ = some (.int .i64 0) := zE BK170
                have hfz29_0 := blk_frozen BK170.out 0
                have hfz29_1 := blk_frozen BK170.out 1
                have hfz29_2 := blk_frozen BK170.out 2
                have hcz30_0 : w10.cell? ⟨gb167, 0, none⟩ = some (.int .i64 a0_0) := zE BK167
                have hcz30_1 : w10.cell? ⟨gb167, 1, none⟩ = some (.int .i64 a0_1) := zE BK167
                have hcz30_2 : w10.cell? ⟨gb167, 2, none⟩ = some (.slice (some ad169) l0_2.length c0_2) := zE BK167
                have hfz30_0 := blk_frozen BK167.out 0
                have hfz30_1 := blk_frozen BK167.out 1
                have hfz30_2 := blk_frozen BK167.out 2
                go_wp2_with (first | (go_at_call 53; (with_reducible refine (spec_l01Word.calls k1 a0_0 ((rd_T89 l0_2 x3_1).f0) true _ A17.out).mono ?_); rintro e w' ⟨rfl, ⟨nd, rfl⟩⟩; (try first | exact ⟨rfl, _, World.drewN_drewN _ _ _⟩ | exact ⟨rfl, _, Eq.trans (World.drewN_drewN _ _ _) (congrArg (World.drewN _) (Nat.add_assoc _ _ _))⟩)) | (go_at_call 103; (with_reducible refine (spec_l01IsFrac.calls k1 ((rd_T89 l0_2 x3_1).f1.f0) ((rd_T89 l0_2 x3_1).f1.f1) false _ A19.out).mono ?_); rintro e w31 ⟨rfl, hb⟩; have n0_ := Aside0.mk (blk_below (g := gb167) (o := .cells #[.int .i64 a0_0, .int .i64 a0_1, .slice (some ad169) l0_2.length c0_2] 32 (0, 0)) (by (with_reducible repeat (first | refine blk_drewN ?_ _ | refine blk_drew ?_ | refine blk_alloc ?_ _)); refine blk_far ?_ NB167_170.out _; (with_reducible repeat (first | refine blk_drewN ?_ _ | refine blk_drew ?_ | refine blk_alloc ?_ _)); refine blk_far ?_ NB167_170.out _; (with_reducible repeat (first | refine blk_drewN ?_ _ | refine blk_drew ?_ | refine blk_alloc ?_ _)); refine blk_far ?_ NB167_170.out _; exact zK) hb); have n1_ := Aside0.mk (blk_below (g := gb170) (o := .cells #[.string ((rd_T89 l0_2 x3_1).f0), .int .i64 ((rd_T89 l0_2 x3_1).f1.f0), .int .i64 ((rd_T89 l0_2 x3_1).f1.f1)] 89 (0, 0)) (by (with_reducible repeat (first | refine blk_drewN ?_ _ | refine blk_drew ?_ | refine blk_alloc ?_ _)); refine blk_put (cs := #[.string ((rd_T89 l0_2 x3_1).f0), .int .i64 ((rd_T89 l0_2 x3_1).f1.f0), .int .i64 0]) ?_ 2 _ rfl; (with_reducible repeat (first | refine blk_drewN ?_ _ | refine blk_drew ?_ | refine blk_alloc ?_ _)); refine blk_put (cs := #[.string ((rd_T89 l0_2 x3_1).f0), .int .i64 0, .int .i64 0]) ?_ 1 _ rfl; (with_reducible repeat (first | refine blk_drewN ?_ _ | refine blk_drew ?_ | refine blk_alloc ?_ _)); refine blk_put (cs := #[.string (⟨#[]⟩ : ByteArray), .int .i64 0, .int .i64 0]) ?_ 0 _ rfl; exact zK) hb); have n2_ := Aside0.mk (below_step zB hb); clear BK167; clear BK170; clear HB; have BK167 := n0_; have BK170 := n1_; have HB := n2_; clear n0_ n1_ n2_; (try clear hb); (try clear hb2); (try clear hk); (try clear hi)))
                repeat (go_quiet (first | (go_at_call 53; (with_reducible refine (spec_l01Word.calls k1 a0_0 ((rd_T89 l0_2 x3_1).f0) true _ A17.out).mono ?_); rintro e w' ⟨rfl, ⟨nd, rfl⟩⟩; (try first | exact ⟨rfl, _, World.drewN_drewN _ _ _⟩ | exact ⟨rfl, _, Eq.trans (World.drewN_drewN _ _ _) (congrArg (World.drewN _) (Nat.add_assoc _ _ _))⟩)) | (go_at_call 103; (with_reducible refine (spec_l01IsFrac.calls k1 ((rd_T89 l0_2 x3_1).f1.f0) ((rd_T89 l0_2 x3_1).f1.f1) false _ A19.out).mono ?_); rintro e w31 ⟨rfl, hb⟩; have n0_ := Aside0.mk (blk_below (g := gb167) (o := .cells #[.int .i64 a0_0, .int .i64 a0_1, .slice (some ad169) l0_2.length c0_2] 32 (0, 0)) (by (with_reducible repeat (first | refine blk_drewN ?_ _ | refine blk_drew ?_ | refine blk_alloc ?_ _)); refine blk_far ?_ NB167_170.out _; (with_reducible repeat (first | refine blk_drewN ?_ _ | refine blk_drew ?_ | refine blk_alloc ?_ _)); refine blk_far ?_ NB167_170.out _; (with_reducible repeat (first | refine blk_drewN ?_ _ | refine blk_drew ?_ | refine blk_alloc ?_ _)); refine blk_far ?_ NB167_170.out _; exact zK) hb); have n1_ := Aside0.mk (blk_below (g := gb170) (o := .cells #[.string ((rd_T89 l0_2 x3_1).f0), .int .i64 ((rd_T89 l0_2 x3_1).f1.f0), .int .i64 ((rd_T89 l0_2 x3_1).f1.f1)] 89 (0, 0)) (by (with_reducible repeat (first | refine blk_drewN ?_ _ | refine blk_drew ?_ | refine blk_alloc ?_ _)); refine blk_put (cs := #[.string ((rd_T89 l0_2 x3_1).f0), .int .i64 ((rd_T89 l0_2 x3_1).f1.f0), .int .i64 0]) ?_ 2 _ rfl; (with_reducible repeat (first | refine blk_drewN ?_ _ | refine blk_drew ?_ | refine blk_alloc ?_ _)); refine blk_put (cs := #[.string ((rd_T89 l0_2 x3_1).f0), .int .i64 0, .int .i64 0]) ?_ 1 _ rfl; (with_reducible repeat (first | refine blk_drewN ?_ _ | refine blk_drew ?_ | refine blk_alloc ?_ _)); refine blk_put (cs := #[.string (⟨#[]⟩ : ByteArray), .int .i64 0, .int .i64 0]) ?_ 0 _ rfl; exact zK) hb); have n2_ := Aside0.mk (below_step zB hb); clear BK167; clear BK170; clear HB; have BK167 := n0_; have BK170 := n1_; have HB := n2_; clear n0_ n1_ n2_; (try clear hb); (try clear hb2); (try clear hk); (try clear hi))); try go_wp2_with (first | (go_at_call 53; (with_reducible refine (spec_l01Word.calls k1 a0_0 ((rd_T89 l0_2 x3_1).f0) true _ A17.out).mono ?_); rintro e w' ⟨rfl, ⟨nd, rfl⟩⟩; (try first | exact ⟨rfl, _, World.drewN_drewN _ _ _⟩ | exact ⟨rfl, _, Eq.trans (World.drewN_drewN _ _ _) (congrArg (World.drewN _) (Nat.add_assoc _ _ _))⟩)) | (go_at_call 103; (with_reducible refine (spec_l01IsFrac.calls k1 ((rd_T89 l0_2 x3_1).f1.f0) ((rd_T89 l0_2 x3_1).f1.f1) false _ A19.out).mono ?_); rintro e w31 ⟨rfl, hb⟩; have n0_ := Aside0.mk (blk_below (g := gb167) (o := .cells #[.int .i64 a0_0, .int .i64 a0_1, .slice (some ad169) l0_2.length c0_2] 32 (0, 0)) (by (with_reducible repeat (first | refine blk_drewN ?_ _ | refine blk_drew ?_ | refine blk_alloc ?_ _)); refine blk_far ?_ NB167_170.out _; (with_reducible repeat (first | refine blk_drewN ?_ _ | refine blk_drew ?_ | refine blk_alloc ?_ _)); refine blk_far ?_ NB167_170.out _; (with_reducible repeat (first | refine blk_drewN ?_ _ | refine blk_drew ?_ | refine blk_alloc ?_ _)); refine blk_far ?_ NB167_170.out _; exact zK) hb); have n1_ := Aside0.mk (blk_below (g := gb170) (o := .cells #[.string ((rd_T89 l0_2 x3_1).f0), .int .i64 ((rd_T89 l0_2 x3_1).f1.f0), .int .i64 ((rd_T89 l0_2 x3_1).f1.f1)] 89 (0, 0)) (by (with_reducible repeat (first | refine blk_drewN ?_ _ | refine blk_drew ?_ | refine blk_alloc ?_ _)); refine blk_put (cs := #[.string ((rd_T89 l0_2 x3_1).f0), .int .i64 ((rd_T89 l0_2 x3_1).f1.f0), .int .i64 0]) ?_ 2 _ rfl; (with_reducible repeat (first | refine blk_drewN ?_ _ | refine blk_drew ?_ | refine blk_alloc ?_ _)); refine blk_put (cs := #[.string ((rd_T89 l0_2 x3_1).f0), .int .i64 0, .int .i64 0]) ?_ 1 _ rfl; (with_reducible repeat (first | refine blk_drewN ?_ _ | refine blk_drew ?_ | refine blk_alloc ?_ _)); refine blk_put (cs := #[.string (⟨#[]⟩ : ByteArray), .int .i64 0, .int .i64 0]) ?_ 0 _ rfl; exact zK) hb); have n2_ := Aside0.mk (below_step zB hb); clear BK167; clear BK170; clear HB; have BK167 := n0_; have BK170 := n1_; have HB := n2_; clear n0_ n1_ n2_; (try clear hb); (try clear hb2); (try clear hk); (try clear hi))))
                go_meet
                case rel => exact ⟨_, (true), (by first | rfl | (simp; done) | (simp [*]; done)), H', ⟨by have := HK1.out; first | omega | exact Nat.le_refl _⟩, ⟨zK⟩, ⟨zK⟩, ⟨zB⟩⟩
              ·replace c18 := Bool.eq_false_iff.mpr c18
               subst c18
               have H1 : (spec_l01Is.j1 k1 x3_1 true a0_0 a0_1 l0_2 ((rd_T89 l0_2 x3_1).f0) ((rd_T89 l0_2 x3_1).f1.f0) ((rd_T89 l0_2 x3_1).f1.f1)) = some r := by rw [if_neg (show ¬ (false = true) by decide)] at H; exact H
               clear H
               have H := H1
               clear H1
               have H' := Aside0.mk H
               clear H
               have hnb32 := NB170_167.out
               have hnc32 := NB167_170.out
               have hcz33_0 : w10.cell? ⟨gb170, 0, none⟩ = some (.string (⟨#[]⟩ : ByteArray)) := zE BK170
               have hcz33_1 : w10.cell? ⟨gb170, 1, none⟩ = some (.int .i64 0) := zE BK170
               have hcz33_2 : w10.cell? ⟨gb170, 2, none⟩ = some (.int .i64 0) := zE BK170
               have hfz33_0 := blk_frozen BK170.out 0
               have hfz33_1 := blk_frozen BK170.out 1
               have hfz33_2 := blk_frozen BK170.out 2
               have hcz34_0 : w10.cell? ⟨gb167, 0, none⟩ = some (.int .i64 a0_0) := zE BK167
               have hcz34_1 : w10.cell? ⟨gb167, 1, none⟩ = some (.int .i64 a0_1) := zE BK167
               have hcz34_2 : w10.cell? ⟨gb167, 2, none⟩ = some (.slice (some ad169) l0_2.length c0_2) := zE BK167
               have hfz34_0 := blk_frozen BK167.out 0
               have hfz34_1 := blk_frozen BK167.out 1
               have hfz34_2 := blk_frozen BK167.out 2
               go_wp2_with (first | (go_at_call 53; (with_reducible refine (spec_l01Word.calls k1 a0_0 ((rd_T89 l0_2 x3_1).f0) false _ A17.out).mono ?_); rintro e w' ⟨rfl, ⟨nd, rfl⟩⟩; (try first | exact ⟨rfl, _, World.drewN_drewN _ _ _⟩ | exact ⟨rfl, _, Eq.trans (World.drewN_drewN _ _ _) (congrArg (World.drewN _) (Nat.add_assoc _ _ _))⟩)))
               repeat (go_quiet (first | (go_at_call 53; (with_reducible refine (spec_l01Word.calls k1 a0_0 ((rd_T89 l0_2 x3_1).f0) false _ A17.out).mono ?_); rintro e w' ⟨rfl, ⟨nd, rfl⟩⟩; (try first | exact ⟨rfl, _, World.drewN_drewN _ _ _⟩ | exact ⟨rfl, _, Eq.trans (World.drewN_drewN _ _ _) (congrArg (World.drewN _) (Nat.add_assoc _ _ _))⟩))); try go_wp2_with (first | (go_at_call 53; (with_reducible refine (spec_l01Word.calls k1 a0_0 ((rd_T89 l0_2 x3_1).f0) false _ A17.out).mono ?_); rintro e w' ⟨rfl, ⟨nd, rfl⟩⟩; (try first | exact ⟨rfl, _, World.drewN_drewN _ _ _⟩ | exact ⟨rfl, _, Eq.trans (World.drewN_drewN _ _ _) (congrArg (World.drewN _) (Nat.add_assoc _ _ _))⟩))))
               go_meet
               case rel => exact ⟨_, (true), (by first | rfl | (simp; done) | (simp [*]; done)), H', ⟨by have := HK1.out; first | omega | exact Nat.le_refl _⟩, ⟨by (with_reducible repeat (first | refine blk_drewN ?_ _ | refine blk_drew ?_ | refine blk_alloc ?_ _)); refine blk_far ?_ NB167_170.out _; (with_reducible repeat (first | refine blk_drewN ?_ _ | refine blk_drew ?_ | refine blk_alloc ?_ _)); refine blk_far ?_ NB167_170.out _; (with_reducible repeat (first | refine blk_drewN ?_ _ | refine blk_drew ?_ | refine blk_alloc ?_ _)); refine blk_far ?_ NB167_170.out _; (with_reducible repeat (first | refine blk_drewN ?_ _ | refine blk_drew ?_ | refine blk_alloc ?_ _)); exact BK167.out⟩, ⟨by (with_reducible repeat (first | refine blk_drewN ?_ _ | refine blk_drew ?_ | refine blk_alloc ?_ _)); refine blk_put (cs := #[.string ((rd_T89 l0_2 x3_1).f0), .int .i64 ((rd_T89 l0_2 x3_1).f1.f0), .int .i64 0]) ?_ 2 _ rfl; (with_reducible repeat (first | refine blk_drewN ?_ _ | refine blk_drew ?_ | refine blk_alloc ?_ _)); refine blk_put (cs := #[.string ((rd_T89 l0_2 x3_1).f0), .int .i64 0, .int .i64 0]) ?_ 1 _ rfl; (with_reducible repeat (first | refine blk_drewN ?_ _ | refine blk_drew ?_ | refine blk_alloc ?_ _)); refine blk_put (cs := #[.string (⟨#[]⟩ : ByteArray), .int .i64 0, .int .i64 0]) ?_ 0 _ rfl; (with_reducible repeat (first | refine blk_drewN ?_ _ | refine blk_drew ?_ | refine blk_alloc ?_ _)); exact BK170.out⟩, ⟨zB⟩⟩
            case rest =>
             clear HC8
             obtain ⟨kq, x47_7, rfl, HA, HJ7, BK167, BK170, HB⟩ := hcut
             cases kq with
             | zero => exact absurd HA.out (by simp [spec_l01Is.j1])
             | succ kj7 =>
              have H := HA.out
              clear HA
              simp only [spec_l01Is.j1] at H
              by_cases c35 : x47_7 = true
              ·subst c35
               have H1 : (some false) = some r := by rw [if_pos rfl] at H; exact H
               clear H
               have H := H1
               clear H1
               obtain rfl := Option.some.inj H
               go_wp2
               repeat (go_quiet (fail); try go_wp2)
               go_ret
               exact ⟨by first | rfl | (simp [errW_none, errW_some] <;> rfl) | (simp [*, errW_none, errW_some] <;> rfl), zB⟩
              ·replace c35 := Bool.eq_false_iff.mpr c35
               subst c35
               have H1 : (if x3_1 > 0 then (if 0 ≤ (wrap64 (x3_1 - 1)) then (if (wrap64 (x3_1 - 1)) < (l0_2.length : Int) then ((spec_l01Before.f ((rd_T89 l0_2 (wrap64 (x3_1 - 1))).f0) ((rd_T89 l0_2 x3_1).f0)).bind fun t175 => (if t175 = true then (spec_l01Is.l0 kj7 (wrap64 (x3_1 + 1)) a0_0 a0_1 l0_2) else (some false))) else (none)) else (none)) else (spec_l01Is.l0 kj7 (wrap64 (x3_1 + 1)) a0_0 a0_1 l0_2)) = some r := by rw [if_neg (show ¬ (false = true) by decide)] at H; exact H
               clear H
               have H := H1
               clear H1
               by_cases c36 : x3_1 > 0
               ·rw [if_pos c36] at H
                have c36b0 : decide (0 < x3_1) = true := decide_eq_true c36
                clear c36
                obtain ⟨ji37, hji37⟩ : ∃ j_ : Int, (wrap64 (x3_1 - 1)) = j_ := ⟨_, rfl⟩
                replace H : (if 0 ≤ (ji37) then (if (ji37) < (l0_2.length : Int) then ((spec_l01Before.f ((rd_T89 l0_2 (ji37)).f0) ((rd_T89 l0_2 x3_1).f0)).bind fun t175 => (if t175 = true then (spec_l01Is.l0 kj7 (wrap64 (x3_1 + 1)) a0_0 a0_1 l0_2) else (some false))) else (none)) else (none)) = some r := by first | (rw [hji37] at H; exact H) | (simp only [hji37] at H ⊢; exact H)
                have hji37w : (IntKind.i64.wrap (x3_1 - 1)) = ji37 := (i64_w _).trans hji37
                by_cases c38 : 0 ≤ (ji37)
                ·rw [if_pos c38] at H
                 have c38b0 : decide (0 ≤ (ji37)) = true := decide_eq_true c38
                 clear c38
                 by_cases c39 : (ji37) < (l0_2.length : Int)
                 ·rw [if_pos c39] at H
                  have c39b0 : decide ((ji37) < (l0_2.length : Int)) = true := decide_eq_true c39
                  clear c39
                  replace H := Option.bind_eq_some_iff.mp H
                  obtain ⟨t175, A400, H⟩ := H
                  replace H : (if t175 = true then (spec_l01Is.l0 kj7 (wrap64 (x3_1 + 1)) a0_0 a0_1 l0_2) else (some false)) = some r := H
                  have A40 := Aside0.mk A400
                  clear A400
                  by_cases c41 : t175 = true
                  ·subst c41
                   have H1 : (spec_l01Is.l0 kj7 (wrap64 (x3_1 + 1)) a0_0 a0_1 l0_2) = some r := by rw [if_pos rfl] at H; exact H
                   clear H
                   have H := H1
                   clear H1
                   have H' := Aside0.mk H
                   clear H
                   have hnb42 := NB167_170.out
                   have hnc42 := NB170_167.out
                   have hcz43_0 : wc.cell? ⟨gb167, 0, none⟩ = some (.int .i64 a0_0) := zE BK167
                   have hcz43_1 : wc.cell? ⟨gb167, 1, none⟩ = some (.int .i64 a0_1) := zE BK167
                   have hcz43_2 : wc.cell? ⟨gb167, 2, none⟩ = some (.slice (some ad169) l0_2.length c0_2) := zE BK167
                   have hfz43_0 := blk_frozen BK167.out 0
                   have hfz43_1 := blk_frozen BK167.out 1
                   have hfz43_2 := blk_frozen BK167.out 2
                   have p174 : 0 ≤ ((ji37) : Int) := zD
                   have q174 : (ji37) < (l0_2.length : Int) := zD
                   obtain ⟨ad174, e174, hx174_0, hx174_1, hx174_2⟩ := at_T89 HR0_2.out (ji37) p174 q174
                   obtain rfl : ad169 = ad174 := (by injection e174)
                   replace hx174_0 := zH HB hx174_0
                   replace hx174_1 := zH HB hx174_1
                   replace hx174_2 := zH HB hx174_2
                   replace p174 := eq_true p174
                   replace q174 := eq_true q174
                   have hcz44_0 : wc.cell? ⟨gb170, 0, none⟩ = some (.string ((rd_T89 l0_2 x3_1).f0)) := zE BK170
                   have hcz44_1 : wc.cell? ⟨gb170, 1, none⟩ = some (.int .i64 ((rd_T89 l0_2 x3_1).f1.f0)) := zE BK170
                   have hcz44_2 : wc.cell? ⟨gb170, 2, none⟩ = some (.int .i64 ((rd_T89 l0_2 x3_1).f1.f1)) := zE BK170
                   have hfz44_0 := blk_frozen BK170.out 0
                   have hfz44_1 := blk_frozen BK170.out 1
                   have hfz44_2 := blk_frozen BK170.out 2
                   go_wp2_with (first | (go_at_call 105; (with_reducible refine (spec_l01Before.calls ((rd_T89 l0_2 (ji37)).f0) ((rd_T89 l0_2 x3_1).f0) true _ A40.out).mono ?_); rintro e w' ⟨rfl, ⟨nd, rfl⟩⟩; (try first | exact ⟨rfl, _, World.drewN_drewN _ _ _⟩ | exact ⟨rfl, _, Eq.trans (World.drewN_drewN _ _ _) (congrArg (World.drewN _) (Nat.add_assoc _ _ _))⟩)))
                   repeat (go_quiet (first | (go_at_call 105; (with_reducible refine (spec_l01Before.calls ((rd_T89 l0_2 (ji37)).f0) ((rd_T89 l0_2 x3_1).f0) true _ A40.out).mono ?_); rintro e w' ⟨rfl, ⟨nd, rfl⟩⟩; (try first | exact ⟨rfl, _, World.drewN_drewN _ _ _⟩ | exact ⟨rfl, _, Eq.trans (World.drewN_drewN _ _ _) (congrArg (World.drewN _) (Nat.add_assoc _ _ _))⟩))); try go_wp2_with (first | (go_at_call 105; (with_reducible refine (spec_l01Before.calls ((rd_T89 l0_2 (ji37)).f0) ((rd_T89 l0_2 x3_1).f0) true _ A40.out).mono ?_); rintro e w' ⟨rfl, ⟨nd, rfl⟩⟩; (try first | exact ⟨rfl, _, World.drewN_drewN _ _ _⟩ | exact ⟨rfl, _, Eq.trans (World.drewN_drewN _ _ _) (congrArg (World.drewN _) (Nat.add_assoc _ _ _))⟩))))
                   go_roundg kj7
                   case measure => have := HK1.out; have := HJ7.out; omega
                   case rel => exact ⟨(wrap64 (x3_1 + 1)), (by first | rfl | (simp; done) | (simp [*]; done)), H', ⟨by have := HK1.out; have := HJ7.out; omega⟩, ⟨zK⟩, ⟨zB⟩⟩
                  ·replace c41 := Bool.eq_false_iff.mpr c41
                   subst c41
                   have H1 : (some false) = some r := by rw [if_neg (show ¬ (false = true) by decide)] at H; exact H
                   clear H
                   have H := H1
                   clear H1
                   obtain rfl := Option.some.inj H
                   have hnb45 := NB167_170.out
                   have hnc45 := NB170_167.out
                   have hcz46_0 : wc.cell? ⟨gb167, 0, none⟩ = some (.int .i64 a0_0) := zE BK167
                   have hcz46_1 : wc.cell? ⟨gb167, 1, none⟩ = some (.int .i64 a0_1) := zE BK167
                   have hcz46_2 : wc.cell? ⟨gb167, 2, none⟩ = some (.slice (some ad169) l0_2.length c0_2) := zE BK167
                   have hfz46_0 := blk_frozen BK167.out 0
                   have hfz46_1 := blk_frozen BK167.out 1
                   have hfz46_2 := blk_frozen BK167.out 2
                   have p174 : 0 ≤ ((ji37) : Int) := zD
                   have q174 : (ji37) < (l0_2.length : Int) := zD
                   obtain ⟨ad174, e174, hx174_0, hx174_1, hx174_2⟩ := at_T89 HR0_2.out (ji37) p174 q174
                   obtain rfl : ad169 = ad174 := (by injection e174)
                   replace hx174_0 := zH HB hx174_0
                   replace hx174_1 := zH HB hx174_1
                   replace hx174_2 := zH HB hx174_2
                   replace p174 := eq_true p174
                   replace q174 := eq_true q174
                   have hcz47_0 : wc.cell? ⟨gb170, 0, none⟩ = some (.string ((rd_T89 l0_2 x3_1).f0)) := zE BK170
                   have hcz47_1 : wc.cell? ⟨gb170, 1, none⟩ = some (.int .i64 ((rd_T89 l0_2 x3_1).f1.f0)) := zE BK170
                   have hcz47_2 : wc.cell? ⟨gb170, 2, none⟩ = some (.int .i64 ((rd_T89 l0_2 x3_1).f1.f1)) := zE BK170
                   have hfz47_0 := blk_frozen BK170.out 0
                   have hfz47_1 := blk_frozen BK170.out 1
                   have hfz47_2 := blk_frozen BK170.out 2
                   go_wp2_with (first | (go_at_call 105; (with_reducible refine (spec_l01Before.calls ((rd_T89 l0_2 (ji37)).f0) ((rd_T89 l0_2 x3_1).f0) false _ A40.out).mono ?_); rintro e w' ⟨rfl, ⟨nd, rfl⟩⟩; (try first | exact ⟨rfl, _, World.drewN_drewN _ _ _⟩ | exact ⟨rfl, _, Eq.trans (World.drewN_drewN _ _ _) (congrArg (World.drewN _) (Nat.add_assoc _ _ _))⟩)))
                   repeat (go_quiet (first | (go_at_call 105; (with_reducible refine (spec_l01Before.calls ((rd_T89 l0_2 (ji37)).f0) ((rd_T89 l0_2 x3_1).f0) false _ A40.out).mono ?_); rintro e w' ⟨rfl, ⟨nd, rfl⟩⟩; (try first | exact ⟨rfl, _, World.drewN_drewN _ _ _⟩ | exact ⟨rfl, _, Eq.trans (World.drewN_drewN _ _ _) (congrArg (World.drewN _) (Nat.add_assoc _ _ _))⟩))); try go_wp2_with (first | (go_at_call 105; (with_reducible refine (spec_l01Before.calls ((rd_T89 l0_2 (ji37)).f0) ((rd_T89 l0_2 x3_1).f0) false _ A40.out).mono ?_); rintro e w' ⟨rfl, ⟨nd, rfl⟩⟩; (try first | exact ⟨rfl, _, World.drewN_drewN _ _ _⟩ | exact ⟨rfl, _, Eq.trans (World.drewN_drewN _ _ _) (congrArg (World.drewN _) (Nat.add_assoc _ _ _))⟩))))
                   go_ret
                   exact ⟨by first | rfl | (simp [errW_none, errW_some] <;> rfl) | (simp only [← hji37]; first | rfl | (simp [errW_none, errW_some] <;> rfl)) | (simp [*, errW_none, errW_some] <;> rfl), zB⟩
                 ·rw [if_neg c39] at H
                  exact absurd H (by simp)
                ·rw [if_neg c38] at H
                 exact absurd H (by simp)
               ·rw [if_neg c36] at H
                have c36b0 : decide (0 < x3_1) = false := decide_eq_false c36
                clear c36
                have H' := Aside0.mk H
                clear H
                go_wp2
                repeat (go_quiet (fail); try go_wp2)
                go_roundg kj7
                case measure => have := HK1.out; have := HJ7.out; omega
                case rel => exact ⟨(wrap64 (x3_1 + 1)), (by first | rfl | (simp; done) | (simp [*]; done)), H', ⟨by have := HK1.out; have := HJ7.out; omega⟩, ⟨zK⟩, ⟨zB⟩⟩
          · rw [if_neg c7] at H
            exact absurd H (by simp)
        · rw [if_neg c6] at H
          have c6b0 : decide (x3_1 < (l0_2.length : Int)) = false := decide_eq_false c6
          clear c6
          obtain rfl := Option.some.inj H
          have hcz48_0 : wr.cell? ⟨gb167, 0, none⟩ = some (.int .i64 a0_0) := zE BK167
          have hcz48_1 : wr.cell? ⟨gb167, 1, none⟩ = some (.int .i64 a0_1) := zE BK167
          have hcz48_2 : wr.cell? ⟨gb167, 2, none⟩ = some (.slice A0_2 l0_2.length c0_2) := zE BK167
          have hfz48_0 := blk_frozen BK167.out 0
          have hfz48_1 := blk_frozen BK167.out 1
          have hfz48_2 := blk_frozen BK167.out 2
          go_wp2
          repeat (go_quiet (fail); try go_wp2)
          go_ret
          exact ⟨by first | rfl | (simp [errW_none, errW_some] <;> rfl) | (simp [*, errW_none, errW_some] <;> rfl), zB⟩
  · replace c3 := Bool.eq_false_iff.mpr c3
    subst c3
    have H1 : (some false) = some r := by rw [if_neg (show ¬ (false = true) by decide)] at H; exact H
    clear H
    have H := H1
    clear H1
    obtain rfl := Option.some.inj H
    go_enter Try.func52, Try.ntmps52
    go_wp2_with (first | ((with_reducible refine gate_dst (N := 1) rfl ?_); refine box_event ?hg (N := 1) ?hd (cs := #[.int .i64 a0_0, .int .i64 a0_1, .slice A0_2 l0_2.length c0_2]) (t := 32) ?hr ?_; (case hd => rfl); (case hg => rfl); (case hr => first | (go_simp; done) | (go_simp; rfl)); intro gb167 hg w49 hbox hb; have n0_ := Aside0.mk (below_step zB hb); have n1_ := Aside0.mk (hbox); have n2_ := Aside0.mk (zG : w.heap.size ≤ gb167); have n3_ := Aside0.mk (zG : w.heap.size ≤ gb167); clear HB; have HB := n0_; have BK167 := n1_; have GW167 := n2_; have GE167 := n3_; clear n0_ n1_ n2_ n3_; clear hb hbox hg; have hcz50_0 : w49.cell? ⟨gb167, 0, none⟩ = some (.int .i64 a0_0) := zE BK167; have hcz50_1 : w49.cell? ⟨gb167, 1, none⟩ = some (.int .i64 a0_1) := zE BK167; have hcz50_2 : w49.cell? ⟨gb167, 2, none⟩ = some (.slice A0_2 l0_2.length c0_2) := zE BK167; have hfz50_0 := blk_frozen BK167.out 0; have hfz50_1 := blk_frozen BK167.out 1; have hfz50_2 := blk_frozen BK167.out 2) | (go_at_call 98; (with_reducible refine (spec_l01Sizes.calls a0_0 a0_1 false _ A2.out).mono ?_); rintro e w' ⟨rfl, ⟨nd, rfl⟩⟩; (try first | exact ⟨rfl, _, World.drewN_drewN _ _ _⟩ | exact ⟨rfl, _, Eq.trans (World.drewN_drewN _ _ _) (congrArg (World.drewN _) (Nat.add_assoc _ _ _))⟩)))
    repeat (go_quiet (first | ((with_reducible refine gate_dst (N := 1) rfl ?_); refine box_event ?hg (N := 1) ?hd (cs := #[.int .i64 a0_0, .int .i64 a0_1, .slice A0_2 l0_2.length c0_2]) (t := 32) ?hr ?_; (case hd => rfl); (case hg => rfl); (case hr => first | (go_simp; done) | (go_simp; rfl)); intro gb167 hg w49 hbox hb; have n0_ := Aside0.mk (below_step zB hb); have n1_ := Aside0.mk (hbox); have n2_ := Aside0.mk (zG : w.heap.size ≤ gb167); have n3_ := Aside0.mk (zG : w.heap.size ≤ gb167); clear HB; have HB := n0_; have BK167 := n1_; have GW167 := n2_; have GE167 := n3_; clear n0_ n1_ n2_ n3_; clear hb hbox hg; have hcz50_0 : w49.cell? ⟨gb167, 0, none⟩ = some (.int .i64 a0_0) := zE BK167; have hcz50_1 : w49.cell? ⟨gb167, 1, none⟩ = some (.int .i64 a0_1) := zE BK167; have hcz50_2 : w49.cell? ⟨gb167, 2, none⟩ = some (.slice A0_2 l0_2.length c0_2) := zE BK167; have hfz50_0 := blk_frozen BK167.out 0; have hfz50_1 := blk_frozen BK167.out 1; have hfz50_2 := blk_frozen BK167.out 2) | (go_at_call 98; (with_reducible refine (spec_l01Sizes.calls a0_0 a0_1 false _ A2.out).mono ?_); rintro e w' ⟨rfl, ⟨nd, rfl⟩⟩; (try first | exact ⟨rfl, _, World.drewN_drewN _ _ _⟩ | exact ⟨rfl, _, Eq.trans (World.drewN_drewN _ _ _) (congrArg (World.drewN _) (Nat.add_assoc _ _ _))⟩))); try go_wp2_with (first | ((with_reducible refine gate_dst (N := 1) rfl ?_); refine box_event ?hg (N := 1) ?hd (cs := #[.int .i64 a0_0, .int .i64 a0_1, .slice A0_2 l0_2.length c0_2]) (t := 32) ?hr ?_; (case hd => rfl); (case hg => rfl); (case hr => first | (go_simp; done) | (go_simp; rfl)); intro gb167 hg w49 hbox hb; have n0_ := Aside0.mk (below_step zB hb); have n1_ := Aside0.mk (hbox); have n2_ := Aside0.mk (zG : w.heap.size ≤ gb167); have n3_ := Aside0.mk (zG : w.heap.size ≤ gb167); clear HB; have HB := n0_; have BK167 := n1_; have GW167 := n2_; have GE167 := n3_; clear n0_ n1_ n2_ n3_; clear hb hbox hg; have hcz50_0 : w49.cell? ⟨gb167, 0, none⟩ = some (.int .i64 a0_0) := zE BK167; have hcz50_1 : w49.cell? ⟨gb167, 1, none⟩ = some (.int .i64 a0_1) := zE BK167; have hcz50_2 : w49.cell? ⟨gb167, 2, none⟩ = some (.slice A0_2 l0_2.length c0_2) := zE BK167; have hfz50_0 := blk_frozen BK167.out 0; have hfz50_1 := blk_frozen BK167.out 1; have hfz50_2 := blk_frozen BK167.out 2) | (go_at_call 98; (with_reducible refine (spec_l01Sizes.calls a0_0 a0_1 false _ A2.out).mono ?_); rintro e w' ⟨rfl, ⟨nd, rfl⟩⟩; (try first | exact ⟨rfl, _, World.drewN_drewN _ _ _⟩ | exact ⟨rfl, _, Eq.trans (World.drewN_drewN _ _ _) (congrArg (World.drewN _) (Nat.add_assoc _ _ _))⟩))))
    go_ret
    exact ⟨by first | rfl | (simp [errW_none, errW_some] <;> rfl) | (simp [*, errW_none, errW_some] <;> rfl), zB⟩

/-! ### spec_l01Empty: function 77 -/
def spec_l01Empty.f (a0_0 : Int) (a0_1 : Int) (l0_2 : List (S89)) : Option (Int × Int × (List (S89))) := some (a0_0, a0_1, (([] : List (S89))))
set_option maxHeartbeats 8000000 in
set_option maxRecDepth 100000 in
theorem spec_l01Empty.calls (a0_0 : Int) (a0_1 : Int) (A0_2 : Option Addr) (c0_2 : Nat) (l0_2 : List (S89)) (r1 : Int) (r2 : Int) (r3 : List (S89)) (w : World) (hr0_2 : Kd.C k89 w A0_2 l0_2.length l0_2) (hc0_2 : l0_2.length ≤ c0_2) (h : spec_l01Empty.f a0_0 a0_1 l0_2 = some (r1, r2, r3)) :
    Calls Try.prog 77 #[.agg #[.int .i64 a0_0, .int .i64 a0_1, .slice A0_2 l0_2.length c0_2]] w fun e w' => ∃ v2_ : Value, e = .returned (.agg #[.int .i64 r1, .int .i64 r2, v2_]) ∧ Kd.R k89 89 w' w.heap.size (fun _ => True) v2_ r3 ∧ Below w.heap.size w w' := by
  have hu32 := Try.underlying32
  have HR0_2 := Aside0.mk hr0_2
  have HC0_2 := Aside0.mk hc0_2
  clear hr0_2 hc0_2
  have HB := Aside0.mk (Below.refl w.heap.size w)
  have H : (some (a0_0, a0_1, (([] : List (S89))))) = some (r1, r2, r3) := h
  clear h
  obtain ⟨y178, hy178⟩ : ∃ y_ : List (S89), y_ = (([] : List (S89))) := ⟨_, rfl⟩
  replace H : (some (a0_0, a0_1, y178)) = some (r1, r2, r3) := by first | (rw [hy178]; with_reducible exact H) | (have H2_ := (Option.bind_some _ _).symm.trans H; rw [hy178]; with_reducible exact H2_) | (have H2_ := (Option.bind_some _ _).symm.trans H; with_reducible exact H2_) | with_reducible exact H | (rw [hy178]; exact H) | exact H
  have Ny178 := Aside0.mk hy178
  clear hy178
  simp only [Option.some.injEq, Prod.mk.injEq] at H
  obtain ⟨rfl, rfl, rfl⟩ := H
  go_enter Try.func77, Try.ntmps77
  go_wp2_with (first | ((with_reducible refine gate_dst (N := 1) rfl ?_); refine box_event ?hg (N := 1) ?hd (cs := #[.int .i64 a0_0, .int .i64 a0_1, .slice A0_2 l0_2.length c0_2]) (t := 32) ?hr ?_; (case hd => rfl); (case hg => rfl); (case hr => first | (go_simp; done) | (go_simp; rfl)); intro gb176 hg w2 hbox hb; have n0_ := Aside0.mk (below_step zB hb); have n1_ := Aside0.mk (hbox); have n2_ := Aside0.mk (zG : w.heap.size ≤ gb176); have n3_ := Aside0.mk (zG : w.heap.size ≤ gb176); clear HB; have HB := n0_; have BK176 := n1_; have GW176 := n2_; have GE176 := n3_; clear n0_ n1_ n2_ n3_; clear hb hbox hg) | ((with_reducible refine gate_dst (N := 2) rfl ?_); refine box_event ?hg (N := 2) ?hd (cs := #[.int .i64 0, .int .i64 0, .slice none 0 0]) (t := 32) ?hr ?_; (case hd => rfl); (case hg => rfl); (case hr => first | (go_simp; done) | (go_simp; rfl)); intro gb177 hg w3 hbox hb; have n0_ := Aside0.mk (blk_below (g := gb176) (o := .cells #[.int .i64 a0_0, .int .i64 a0_1, .slice A0_2 l0_2.length c0_2] 32 (0, 0)) zK hb); have n1_ := Aside0.mk (below_step zB hb); have n2_ := Aside0.mk (hbox); have n3_ := Aside0.mk (zG : w.heap.size ≤ gb177); have n4_ := Aside0.mk (zG : w.heap.size ≤ gb177); have n5_ := Aside0.mk ((by rw [hg]; exact Nat.ne_of_lt (blk_lt (g := gb176) (o := .cells #[.int .i64 a0_0, .int .i64 a0_1, .slice A0_2 l0_2.length c0_2] 32 (0, 0)) zK) : gb176 ≠ gb177)); have n6_ := Aside0.mk ((by rw [hg]; exact Nat.ne_of_gt (blk_lt (g := gb176) (o := .cells #[.int .i64 a0_0, .int .i64 a0_1, .slice A0_2 l0_2.length c0_2] 32 (0, 0)) zK) : gb177 ≠ gb176)); clear BK176; clear HB; have BK176 := n0_; have HB := n1_; have BK177 := n2_; have GW177 := n3_; have GE177 := n4_; have NB176_177 := n5_; have NB177_176 := n6_; clear n0_ n1_ n2_ n3_ n4_ n5_ n6_; clear hb hbox hg; have hnb4 := NB176_177.out; have hnc4 := NB177_176.out; have hcz5_0 : w3.cell? ⟨gb176, 0, none⟩ = some (.int .i64 a0_0) := zE BK176; have hcz5_1 : w3.cell? ⟨gb176, 1, none⟩ = some (.int .i64 a0_1) := zE BK176; have hcz5_2 : w3.cell? ⟨gb176, 2, none⟩ = some (.slice A0_2 l0_2.length c0_2) := zE BK176; have hfz5_0 := blk_frozen BK176.out 0; have hfz5_1 := blk_frozen BK176.out 1; have hfz5_2 := blk_frozen BK176.out 2) | ((with_reducible refine gate_dst (N := 7) rfl ?_); refine Kd.R_lit k89 _ 89 ?hg (N := 7) ?hd (xs := ([] : List (S89))) (inner := []) (ok := fun _ => True) (okp := fun _ => True) ?hr ?hp (fun _ hk => hk) trivial (Below.refl _ _) (Nat.le_refl _) (by simp) ?_; (case hd => rfl); (case hg => rfl); (case hr => first | (go_simp; done) | (go_simp; rfl)); (case hp => exact (Reps.none _ _)); intro v179 w6 ho7 hb hg_ hnew_; clear hg_ hnew_; (first | rw [← Ny178.out] at ho7 | (simp only [Int.reduceToNat] at ho7; rw [← Ny178.out] at ho7)); have n0_ := Aside0.mk (Kd.R_lower ho7 (below_size zB)); have n1_ := Aside0.mk (blk_below (g := gb176) (o := .cells #[.int .i64 a0_0, .int .i64 a0_1, .slice A0_2 l0_2.length c0_2] 32 (0, 0)) zK hb); have n2_ := Aside0.mk (blk_below (g := gb177) (o := .cells #[.int .i64 0, .int .i64 0, .slice none 0 0] 32 (0, 0)) zK hb); have n3_ := Aside0.mk (below_step zB hb); clear BK176; clear BK177; clear HB; have HO180 := n0_; have BK176 := n1_; have BK177 := n2_; have HB := n3_; clear n0_ n1_ n2_ n3_; clear hb ho7; obtain ⟨Ao8, co8, eo8⟩ := Kd.R_slice HO180.out; subst eo8; have hcz9_0 : w6.cell? ⟨gb177, 0, none⟩ = some (.int .i64 0) := zE BK177; have hcz9_1 : w6.cell? ⟨gb177, 1, none⟩ = some (.int .i64 0) := zE BK177; have hcz9_2 : w6.cell? ⟨gb177, 2, none⟩ = some (.slice none 0 0) := zE BK177; have hfz9_0 := blk_frozen BK177.out 0; have hfz9_1 := blk_frozen BK177.out 1; have hfz9_2 := blk_frozen BK177.out 2))
  refine bodyPost_ret (results_cell_row rfl _ _ gb177 32 #[.int .i64 a0_0, .int .i64 a0_1, .slice Ao8 y178.length co8] (0, 0) _ rfl (by (with_reducible repeat (first | refine blk_drewN ?_ _ | refine blk_drew ?_ | refine blk_alloc ?_ _)); refine blk_put (cs := #[.int .i64 a0_0, .int .i64 a0_1, .slice none 0 0]) ?_ 2 _ rfl; (with_reducible repeat (first | refine blk_drewN ?_ _ | refine blk_drew ?_ | refine blk_alloc ?_ _)); refine blk_put (cs := #[.int .i64 a0_0, .int .i64 0, .slice none 0 0]) ?_ 1 _ rfl; (with_reducible repeat (first | refine blk_drewN ?_ _ | refine blk_drew ?_ | refine blk_alloc ?_ _)); refine blk_put (cs := #[.int .i64 0, .int .i64 0, .slice none 0 0]) ?_ 0 _ rfl; exact zK) Try.underlying32 rfl (by kernel_rfl)) rfl ?_
  exact ⟨_, by first | rfl | (simp [errW_none, errW_some] <;> rfl) | (simp [*, errW_none, errW_some] <;> rfl), by (with_reducible repeat (first | apply Kd.R_alloc | apply Kd.R_drewN | apply Kd.R_drew)); exact Kd.R_mono (Kd.R_far (p := ⟨gb177, 2, none⟩) (Kd.R_far (p := ⟨gb177, 1, none⟩) (Kd.R_far (p := ⟨gb177, 0, none⟩) (Kd.R_types HO180.out BK177.out (by decide)) (fun _ hk => hk.2) (.int .i64 a0_0)) (fun _ hk => hk.2) (.int .i64 a0_1)) (fun _ hk => hk.2) (.slice Ao8 y178.length co8)) (fun _ hk => trivial), zB⟩

end Go.Proofs.Ytcklefgkbddlhaa.P
