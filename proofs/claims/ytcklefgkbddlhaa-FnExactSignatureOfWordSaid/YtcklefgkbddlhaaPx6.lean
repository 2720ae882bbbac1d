/- What a call of each Go function named below comes to is what the plain Lean function beside it says. Made by a program of this session out of the print of the translation; Lean checks it. -/
import Derived.Test.YtcklefgkbddlhaaPx0
import Derived.Test.YtcklefgkbddlhaaPx3
import Derived.Test.YtcklefgkbddlhaaPx4
import Derived.Test.YtcklefgkbddlhaaPx5
namespace Go.Proofs.Ytcklefgkbddlhaa.P
open Go.RowKit Go.Proofs.YtcklefgkbddlhaaW.PrintWords Go.Proofs.YtcklefgkbddlhaaW.PrintLast Go.Proofs.YtcklefgkbddlhaaW.PrintMore
attribute [local go_sem] max2_int min2_int max_two min_two max_three min_three max_four min_four   -- for this text's walks alone
set_option linter.unusedVariables false
set_option linter.unusedSimpArgs false


/-! ### spec_l09Step: function 84 -/
mutual
def spec_l09Step.j0 : Nat → ByteArray → Int → Int → Int → List (S89) → Int → Int → List (S89) → Option (Int × Int × (List (S89)))
  | 0, _, _, _, _, _, _, _, _ => none
  | k + 1, x6, x7, x217000, x217001, x217002, x227000, x227001, x227002 => spec_l09Step.l0 k x6 x7 0 x217000 x217001 x217002 x227000 x227001 x227002
def spec_l09Step.l0 : Nat → ByteArray → Int → Int → Int → Int → List (S89) → Int → Int → List (S89) → Option (Int × Int × (List (S89)))
  | 0, _, _, _, _, _, _, _, _, _ => none
  | k + 1, x6, x7, x8, x217000, x217001, x217002, x227000, x227001, x227002 => if x8 < (x217002.length : Int) then (if 0 ≤ x8 then (spec_l09Step.l1 k x6 x7 x8 ((rd_T89 x217002 x8).f0) 1 x217000 x217001 x217002 x227000 x227001 x227002 ((rd_T89 x217002 x8).f1.f0) ((rd_T89 x217002 x8).f1.f1)) else (none)) else (some (x227000, x227001, x227002))
def spec_l09Step.l1 : Nat → ByteArray → Int → Int → ByteArray → Int → Int → Int → List (S89) → Int → Int → List (S89) → Int → Int → Option (Int × Int × (List (S89)))
  | 0, _, _, _, _, _, _, _, _, _, _, _, _, _ => none
  | k + 1, x6, x7, x8, x9, x11, x217000, x217001, x217002, x227000, x227001, x227002, x230000, x230001 => if (x9.size : Int) ≤ x217001 then ((spec_l01Put.f k x227002 x9 x230000 x230001).bind fun bt230 => (if x9.size + x6.size ≤ 9223372036854775807 then ((spec_l01Frac.f k (wrap64 (x230000 * x7)) (wrap64 (x230001 * x11))).bind fun bt234 => (spec_l09Step.l1 k x6 x7 x8 (x9 ++ x6) (wrap64 (x11 + 1)) x217000 x217001 x217002 x227000 x227001 bt230.1 bt234.1 bt234.2.1)) else (none))) else (spec_l09Step.l0 k x6 x7 (wrap64 (x8 + 1)) x217000 x217001 x217002 x227000 x227001 x227002)
end
def spec_l09Step.f (k : Nat) (a0_0 : Int) (a0_1 : Int) (l0_2 : List (S89)) (a1 : Int) : Option (Int × Int × (List (S89))) := (spec_l01Empty.f a0_0 a0_1 l0_2).bind fun bt218 => ((some (([(wrap64 ((wrap64 (48 + (mx a1 (wrap64 (-a1))))) - 1)) % 256] : List Int) : List Int)).bind fun y223 => (if a1 < 0 then (spec_l09Step.j0 k (strOfNums y223) (-1) a0_0 a0_1 l0_2 bt218.1 bt218.2.1 bt218.2.2) else (spec_l09Step.j0 k (strOfNums y223) 1 a0_0 a0_1 l0_2 bt218.1 bt218.2.1 bt218.2.2)))
theorem spec_l09Step.mono_l : ∀ k, (∀ y0 y1 y2 y3 y4 y5 y6 y7, LeO (spec_l09Step.j0 k y0 y1 y2 y3 y4 y5 y6 y7) (spec_l09Step.j0 (k + 1) y0 y1 y2 y3 y4 y5 y6 y7)) ∧ (∀ y0 y1 y2 y3 y4 y5 y6 y7 y8, LeO (spec_l09Step.l0 k y0 y1 y2 y3 y4 y5 y6 y7 y8) (spec_l09Step.l0 (k + 1) y0 y1 y2 y3 y4 y5 y6 y7 y8)) ∧ (∀ y0 y1 y2 y3 y4 y5 y6 y7 y8 y9 y10 y11 y12, LeO (spec_l09Step.l1 k y0 y1 y2 y3 y4 y5 y6 y7 y8 y9 y10 y11 y12) (spec_l09Step.l1 (k + 1) y0 y1 y2 y3 y4 y5 y6 y7 y8 y9 y10 y11 y12))
  | 0 => ⟨fun _ _ _ _ _ _ _ _ r h => by simp [spec_l09Step.j0] at h, fun _ _ _ _ _ _ _ _ _ r h => by simp [spec_l09Step.l0] at h, fun _ _ _ _ _ _ _ _ _ _ _ _ _ r h => by simp [spec_l09Step.l1] at h⟩
  | k + 1 => by
    obtain ⟨ih0, ih1, ih2⟩ := spec_l09Step.mono_l k
    refine ⟨?_, ?_, ?_⟩
    · intro y0 y1 y2 y3 y4 y5 y6 y7
      unfold spec_l09Step.j0
      repeat' first
      | (with_reducible exact ih0 _ _ _ _ _ _ _ _)
      | (with_reducible exact ih1 _ _ _ _ _ _ _ _ _)
      | (with_reducible exact ih2 _ _ _ _ _ _ _ _ _ _ _ _ _)
      | (with_reducible exact spec_l01Frac.mono _ _ _)
      | (with_reducible exact spec_l01Put.mono _ _ _ _ _)
      | (with_reducible exact LeO.refl _)
      | (with_reducible exact LeO.none _)
      | (with_reducible refine LeO.ite ?_ ?_)
      | (with_reducible refine LeO.bind ?_ (fun _ => ?_))
    · intro y0 y1 y2 y3 y4 y5 y6 y7 y8
      unfold spec_l09Step.l0
      repeat' first
      | (with_reducible exact ih0 _ _ _ _ _ _ _ _)
      | (with_reducible exact ih1 _ _ _ _ _ _ _ _ _)
      | (with_reducible exact ih2 _ _ _ _ _ _ _ _ _ _ _ _ _)
      | (with_reducible exact spec_l01Frac.mono _ _ _)
      | (with_reducible exact spec_l01Put.mono _ _ _ _ _)
      | (with_reducible exact LeO.refl _)
      | (with_reducible exact LeO.none _)
      | (with_reducible refine LeO.ite ?_ ?_)
      | (with_reducible refine LeO.bind ?_ (fun _ => ?_))
    · intro y0 y1 y2 y3 y4 y5 y6 y7 y8 y9 y10 y11 y12
      unfold spec_l09Step.l1
      repeat' first
      | (with_reducible exact ih0 _ _ _ _ _ _ _ _)
      | (with_reducible exact ih1 _ _ _ _ _ _ _ _ _)
      | (with_reducible exact ih2 _ _ _ _ _ _ _ _ _ _ _ _ _)
      | (with_reducible exact spec_l01Frac.mono _ _ _)
      | (with_reducible exact spec_l01Put.mono _ _ _ _ _)
      | (with_reducible exact LeO.refl _)
      | (with_reducible exact LeO.none _)
      | (with_reducible refine LeO.ite ?_ ?_)
      | (with_reducible refine LeO.bind ?_ (fun _ => ?_))
theorem spec_l09Step.mono : ∀ a0 a1 a2 a3 k, LeO (spec_l09Step.f k a0 a1 a2 a3) (spec_l09Step.f (k + 1) a0 a1 a2 a3) := by
  intro a0 a1 a2 a3 k
  obtain ⟨ih0, ih1, ih2⟩ := spec_l09Step.mono_l k
  unfold spec_l09Step.f
  repeat' first
      | (with_reducible exact ih0 _ _ _ _ _ _ _ _)
      | (with_reducible exact ih1 _ _ _ _ _ _ _ _ _)
      | (with_reducible exact ih2 _ _ _ _ _ _ _ _ _ _ _ _ _)
      | (with_reducible exact spec_l01Frac.mono _ _ _)
      | (with_reducible exact spec_l01Put.mono _ _ _ _ _)
      | (with_reducible exact LeO.refl _)
      | (with_reducible exact LeO.none _)
      | (with_reducible refine LeO.ite ?_ ?_)
      | (with_reducible refine LeO.bind ?_ (fun _ => ?_))
def spec_l09Step.T1 : Bool × List (List Nat × List Nat) := (true, [([], []), ([0], [0]), ([], []), ([], []), ([3], [3]), ([2, 4], [2, 4]), ([5], [5]), ([6], [6]), ([7], [7]), ([8], [8]), ([9], [9]), ([], []), ([11, 1, 1, 0, 1, 11], [1, 11]), ([10, 12, 0, 1, 2, 3, 4, 5, 6, 7, 8, 9, 10, 11, 12], [10]), ([13, 0, 1, 2, 3, 4, 5, 6, 7, 8, 9, 10, 11, 12, 13], [])])
def spec_l09Step.B1 : List Nat := [0, 1, 0, 0, 8, 28, 60, 124, 252, 508, 1020, 0, 2051, 8191, 16383]
theorem spec_l09Step.tab1 : rtab .any (opsOf Try.f84 1) = spec_l09Step.T1 := by kernel_rfl
theorem spec_l09Step.bits1 : waitsOk spec_l09Step.T1.2 spec_l09Step.B1 = true := by kernel_rfl
def spec_l09Step.T7 : Bool × List (List Nat × List Nat) := (true, [([], []), ([0], [0]), ([], []), ([1, 2], [1, 2]), ([3], [3]), ([4], [4]), ([], []), ([6], [6]), ([], []), ([7, 8], [7, 8]), ([9], [9]), ([10], [10]), ([], []), ([5, 0, 1, 2, 3, 4, 5, 12], [5]), ([12, 11, 13, 0, 1, 2, 3, 4, 5, 6, 7, 8, 9, 10, 11, 12, 13], [11, 12])])
def spec_l09Step.B7 : List Nat := [0, 1, 0, 7, 15, 31, 0, 64, 0, 448, 960, 1984, 0, 4159, 16383]
theorem spec_l09Step.tab7 : rtab .any (opsOf Try.f84 7) = spec_l09Step.T7 := by kernel_rfl
theorem spec_l09Step.bits7 : waitsOk spec_l09Step.T7.2 spec_l09Step.B7 = true := by kernel_rfl
set_option maxHeartbeats 8000000 in
set_option maxRecDepth 100000 in
theorem spec_l09Step.calls (k : Nat) (a0_0 : Int) (a0_1 : Int) (A0_2 : Option Addr) (c0_2 : Nat) (l0_2 : List (S89)) (a1 : Int) (r1 : Int) (r2 : Int) (r3 : List (S89)) (w : World) (hr0_2 : Kd.C k89 w A0_2 l0_2.length l0_2) (hc0_2 : l0_2.length ≤ c0_2) (h : spec_l09Step.f k a0_0 a0_1 l0_2 a1 = some (r1, r2, r3)) :
    Calls Try.prog 84 #[.agg #[.int .i64 a0_0, .int .i64 a0_1, .slice A0_2 l0_2.length c0_2], .int .i64 a1] w fun e w' => ∃ v2_ : Value, e = .returned (.agg #[.int .i64 r1, .int .i64 r2, v2_]) ∧ Kd.R k89 89 w' w.heap.size (fun _ => True) v2_ r3 ∧ Below w.heap.size w w' := by
  have hu32 := Try.underlying32
  have hu27 := Try.underlying27
  have HR0_2 := Aside0.mk hr0_2
  have HC0_2 := Aside0.mk hc0_2
  clear hr0_2 hc0_2
  have HB := Aside0.mk (Below.refl w.heap.size w)
  have H : ((spec_l01Empty.f a0_0 a0_1 l0_2).bind fun bt218 => ((some (([(wrap64 ((wrap64 (48 + (mx a1 (wrap64 (-a1))))) - 1)) % 256] : List Int) : List Int)).bind fun y223 => (if a1 < 0 then (spec_l09Step.j0 k (strOfNums y223) (-1) a0_0 a0_1 l0_2 bt218.1 bt218.2.1 bt218.2.2) else (spec_l09Step.j0 k (strOfNums y223) 1 a0_0 a0_1 l0_2 bt218.1 bt218.2.1 bt218.2.2)))) = some (r1, r2, r3) := h
  clear h
  replace H := Option.bind_eq_some_iff.mp H
  obtain ⟨⟨t218, t219, t220⟩, A30, H⟩ := H
  replace H : ((some (([(wrap64 ((wrap64 (48 + (mx a1 (wrap64 (-a1))))) - 1)) % 256] : List Int) : List Int)).bind fun y223 => (if a1 < 0 then (spec_l09Step.j0 k (strOfNums y223) (-1) a0_0 a0_1 l0_2 t218 t219 t220) else (spec_l09Step.j0 k (strOfNums y223) 1 a0_0 a0_1 l0_2 t218 t219 t220))) = some (r1, r2, r3) := H
  have A3 := Aside0.mk A30
  clear A30
  obtain ⟨ji4, hji4⟩ : ∃ j_ : Int, (mx a1 (wrap64 (-a1))) = j_ := ⟨_, rfl⟩
  replace H : ((some (([(wrap64 ((wrap64 (48 + (ji4))) - 1)) % 256] : List Int) : List Int)).bind fun y223 => (if a1 < 0 then (spec_l09Step.j0 k (strOfNums y223) (-1) a0_0 a0_1 l0_2 t218 t219 t220) else (spec_l09Step.j0 k (strOfNums y223) 1 a0_0 a0_1 l0_2 t218 t219 t220))) = some (r1, r2, r3) := by first | (rw [hji4] at H; exact H) | (simp only [hji4] at H ⊢; exact H)
  (try rw [hji4] at A3)
  have hji4_ : (if a1 < (wrap64 (-a1)) then (wrap64 (-a1)) else a1) = ji4 := hji4
  obtain ⟨y223, hy223⟩ : ∃ y_ : List Int, y_ = (([(wrap64 ((wrap64 (48 + (ji4))) - 1)) % 256] : List Int)) := ⟨_, rfl⟩
  replace H : (if a1 < 0 then (spec_l09Step.j0 k (strOfNums y223) (-1) a0_0 a0_1 l0_2 t218 t219 t220) else (spec_l09Step.j0 k (strOfNums y223) 1 a0_0 a0_1 l0_2 t218 t219 t220)) = some (r1, r2, r3) := by first | (rw [hy223]; with_reducible exact H) | (have H2_ := (Option.bind_some _ _).symm.trans H; rw [hy223]; with_reducible exact H2_) | (have H2_ := (Option.bind_some _ _).symm.trans H; with_reducible exact H2_) | with_reducible exact H | (rw [hy223]; exact H) | exact H
  have Ny223 := Aside0.mk hy223
  clear hy223
  have HC5 := Aside0.mk H
  clear H
  go_enter Try.func84, Try.ntmps84
  try go_wp2_with (first | ((with_reducible refine gate_dst (N := 2) rfl ?_); refine box_event ?hg (N := 2) ?hd (cs := #[.int .i64 a0_0, .int .i64 a0_1, .slice A0_2 l0_2.length c0_2]) (t := 32) ?hr ?_; (case hd => rfl); (case hg => rfl); (case hr => first | (go_simp; done) | (go_simp; rfl)); intro gb216 hg w6 hbox hb; have n0_ := Aside0.mk (below_step zB hb); have n1_ := Aside0.mk (hbox); have n2_ := Aside0.mk (zG : w.heap.size ≤ gb216); have n3_ := Aside0.mk (zG : w.heap.size ≤ gb216); clear HB; have HB := n0_; have BK216 := n1_; have GW216 := n2_; have GE216 := n3_; clear n0_ n1_ n2_ n3_; clear hb hbox hg) | ((with_reducible refine gate_dst (N := 4) rfl ?_); refine box_event ?hg (N := 4) ?hd (cs := #[.int .i64 0, .int .i64 0, .slice none 0 0]) (t := 32) ?hr ?_; (case hd => rfl); (case hg => rfl); (case hr => first | (go_simp; done) | (go_simp; rfl)); intro gb217 hg w7 hbox hb; have n0_ := Aside0.mk (blk_below (g := gb216) (o := .cells #[.int .i64 a0_0, .int .i64 a0_1, .slice A0_2 l0_2.length c0_2] 32 (0, 0)) zK hb); have n1_ := Aside0.mk (below_step zB hb); have n2_ := Aside0.mk (hbox); have n3_ := Aside0.mk (zG : w.heap.size ≤ gb217); have n4_ := Aside0.mk (zG : w.heap.size ≤ gb217); have n5_ := Aside0.mk ((by rw [hg]; exact Nat.ne_of_lt (blk_lt (g := gb216) (o := .cells #[.int .i64 a0_0, .int .i64 a0_1, .slice A0_2 l0_2.length c0_2] 32 (0, 0)) zK) : gb216 ≠ gb217)); have n6_ := Aside0.mk ((by rw [hg]; exact Nat.ne_of_gt (blk_lt (g := gb216) (o := .cells #[.int .i64 a0_0, .int .i64 a0_1, .slice A0_2 l0_2.length c0_2] 32 (0, 0)) zK) : gb217 ≠ gb216)); clear BK216; clear HB; have BK216 := n0_; have HB := n1_; have BK217 := n2_; have GW217 := n3_; have GE217 := n4_; have NB216_217 := n5_; have NB217_216 := n6_; clear n0_ n1_ n2_ n3_ n4_ n5_ n6_; clear hb hbox hg))
  have n0_ := Aside0.mk (blk_drew BK216.out)
  have n1_ := Aside0.mk (blk_drew BK217.out)
  have n2_ := Aside0.mk (below_drew1 HB.out)
  clear BK216
  clear BK217
  clear HB
  have BK216 := n0_
  have BK217 := n1_
  have HB := n2_
  clear n0_ n1_ n2_
  refine start_ (n := 15) (S := fun w' => w'.cell? ⟨gb216, 0, none⟩ = some (.int .i64 a0_0) ∧ w'.cell? ⟨gb216, 1, none⟩ = some (.int .i64 a0_1) ∧ w'.cell? ⟨gb216, 2, none⟩ = some (.slice A0_2 l0_2.length c0_2)) (ds := []) #[false, false, false, false, false, false, false, false, false, false, false, false, false, false, false] (by kernel_rfl) rfl rfl ⟨(blk_cell BK216.out 0).trans rfl, (blk_cell BK216.out 1).trans rfl, (blk_cell BK216.out 2).trans rfl⟩ (fun hHeld => ?_); refine with_tabW spec_l09Step.tab1 spec_l09Step.bits1 (fun HT_ HW_ => ?_)
  generalize w7.drew = w8 at BK216 BK217 HB hHeld ⊢
  refine zP 2 (N := some 18) (h := ?_)
  refine zP 3 (N := some 19) (h := ?_)
  refine zP 4 (N := some 20) (h := ?_)
  refine zP 5 (N := some 21) (h := ?_)
  refine zP 6 (N := some 22) (h := ?_)
  refine zP 7 (N := some 23) (h := ?_)
  refine zP 8 (N := some 24) (h := ?_)
  refine zT 0 hHeld (N := some 16) (h := ?_)
  refine join_ (σ := Value × Value × Nat) 2 #[true, true, true, true, true, true, true, true, true, true, true, true, true, false, false] (fun s_ => [(17, .agg #[.int .i64 t218, .int .i64 t219, s_.1]), (25, s_.2.1), (26, .string (strOfNums y223)), (5, .pointer (some ⟨s_.2.2, 0, none⟩))]) (fun s_ w' => (w'.cell? ⟨gb216, 0, none⟩ = some (.int .i64 a0_0) ∧ w'.cell? ⟨gb216, 1, none⟩ = some (.int .i64 a0_1) ∧ w'.cell? ⟨gb216, 2, none⟩ = some (.slice A0_2 l0_2.length c0_2)) ∧ (Kd.R k89 89 w' w.heap.size (fun _ => True) s_.1 t220) ∧ (Kd.R (Kd.int .u8) 5 w' w.heap.size (fun _ => True) s_.2.1 y223) ∧ (w'.heap[gb216]? = some (.cells #[.int .i64 a0_0, .int .i64 a0_1, .slice A0_2 l0_2.length c0_2] 32 (0, 0))) ∧ (w'.heap[gb217]? = some (.cells #[.int .i64 0, .int .i64 0, .slice none 0 0] 32 (0, 0))) ∧ (w'.heap[s_.2.2]? = some (.cells #[.int .i64 t218, .int .i64 t219, s_.1] 32 (0, 0))) ∧ (w.heap.size ≤ s_.2.2) ∧ (w.heap.size ≤ s_.2.2) ∧ (gb216 ≠ s_.2.2) ∧ (s_.2.2 ≠ gb216) ∧ (gb217 ≠ s_.2.2) ∧ (s_.2.2 ≠ gb217) ∧ (Below w.heap.size w w')) ?_ ?_
  rotate_left
  · intro hJ1_9_10_11_12
    refine join_ (σ := Value × Value × Nat) 3 #[true, true, true, true, true, true, true, true, true, true, true, true, false, false, false] (fun s_ => [(17, .agg #[.int .i64 t218, .int .i64 t219, s_.1]), (25, s_.2.1), (26, .string (strOfNums y223)), (5, .pointer (some ⟨s_.2.2, 0, none⟩))]) (fun s_ w' => (w'.cell? ⟨gb216, 0, none⟩ = some (.int .i64 a0_0) ∧ w'.cell? ⟨gb216, 1, none⟩ = some (.int .i64 a0_1) ∧ w'.cell? ⟨gb216, 2, none⟩ = some (.slice A0_2 l0_2.length c0_2)) ∧ (Kd.R k89 89 w' w.heap.size (fun _ => True) s_.1 t220) ∧ (Kd.R (Kd.int .u8) 5 w' w.heap.size (fun _ => True) s_.2.1 y223) ∧ (w'.heap[gb216]? = some (.cells #[.int .i64 a0_0, .int .i64 a0_1, .slice A0_2 l0_2.length c0_2] 32 (0, 0))) ∧ (w'.heap[gb217]? = some (.cells #[.int .i64 0, .int .i64 0, .slice none 0 0] 32 (0, 0))) ∧ (w'.heap[s_.2.2]? = some (.cells #[.int .i64 0, .int .i64 0, .slice none 0 0] 32 (0, 0))) ∧ (w.heap.size ≤ s_.2.2) ∧ (w.heap.size ≤ s_.2.2) ∧ (gb216 ≠ s_.2.2) ∧ (s_.2.2 ≠ gb216) ∧ (gb217 ≠ s_.2.2) ∧ (s_.2.2 ≠ gb217) ∧ (Below w.heap.size w w')) ?_ ?_
    rotate_left
    · intro hJ1_9_10_11
      refine join_ (σ := Value × Value × Nat) 3 #[true, true, true, true, true, true, true, true, true, true, false, true, true, false, false] (fun s_ => [(17, .agg #[.int .i64 t218, .int .i64 t219, s_.1]), (25, s_.2.1), (5, .pointer (some ⟨s_.2.2, 0, none⟩))]) (fun s_ w' => (w'.cell? ⟨gb216, 0, none⟩ = some (.int .i64 a0_0) ∧ w'.cell? ⟨gb216, 1, none⟩ = some (.int .i64 a0_1) ∧ w'.cell? ⟨gb216, 2, none⟩ = some (.slice A0_2 l0_2.length c0_2)) ∧ (Kd.R k89 89 w' w.heap.size (fun _ => True) s_.1 t220) ∧ (Kd.R (Kd.int .u8) 5 w' w.heap.size (fun _ => True) s_.2.1 y223) ∧ (w'.heap[gb216]? = some (.cells #[.int .i64 a0_0, .int .i64 a0_1, .slice A0_2 l0_2.length c0_2] 32 (0, 0))) ∧ (w'.heap[gb217]? = some (.cells #[.int .i64 0, .int .i64 0, .slice none 0 0] 32 (0, 0))) ∧ (w'.heap[s_.2.2]? = some (.cells #[.int .i64 t218, .int .i64 t219, s_.1] 32 (0, 0))) ∧ (w.heap.size ≤ s_.2.2) ∧ (w.heap.size ≤ s_.2.2) ∧ (gb216 ≠ s_.2.2) ∧ (s_.2.2 ≠ gb216) ∧ (gb217 ≠ s_.2.2) ∧ (s_.2.2 ≠ gb217) ∧ (Below w.heap.size w w')) ?_ ?_
      rotate_left
      · intro hJ1_9_11_12
        refine join_ (σ := Value × Value) 4 #[true, true, true, true, true, true, true, true, true, true, true, false, false, false, false] (fun s_ => [(17, .agg #[.int .i64 t218, .int .i64 t219, s_.1]), (25, s_.2), (26, .string (strOfNums y223))]) (fun s_ w' => (w'.cell? ⟨gb216, 0, none⟩ = some (.int .i64 a0_0) ∧ w'.cell? ⟨gb216, 1, none⟩ = some (.int .i64 a0_1) ∧ w'.cell? ⟨gb216, 2, none⟩ = some (.slice A0_2 l0_2.length c0_2)) ∧ (Kd.R k89 89 w' w.heap.size (fun _ => True) s_.1 t220) ∧ (Kd.R (Kd.int .u8) 5 w' w.heap.size (fun _ => True) s_.2 y223) ∧ (w'.heap[gb216]? = some (.cells #[.int .i64 a0_0, .int .i64 a0_1, .slice A0_2 l0_2.length c0_2] 32 (0, 0))) ∧ (w'.heap[gb217]? = some (.cells #[.int .i64 0, .int .i64 0, .slice none 0 0] 32 (0, 0))) ∧ (Below w.heap.size w w')) ?_ ?_
        rotate_left
        · intro hJ1_9_10
          refine join_ (σ := Value × Value × Nat) 4 #[true, true, true, true, true, true, true, true, true, true, false, true, false, false, false] (fun s_ => [(17, .agg #[.int .i64 t218, .int .i64 t219, s_.1]), (25, s_.2.1), (5, .pointer (some ⟨s_.2.2, 0, none⟩))]) (fun s_ w' => (w'.cell? ⟨gb216, 0, none⟩ = some (.int .i64 a0_0) ∧ w'.cell? ⟨gb216, 1, none⟩ = some (.int .i64 a0_1) ∧ w'.cell? ⟨gb216, 2, none⟩ = some (.slice A0_2 l0_2.length c0_2)) ∧ (Kd.R k89 89 w' w.heap.size (fun _ => True) s_.1 t220) ∧ (Kd.R (Kd.int .u8) 5 w' w.heap.size (fun _ => True) s_.2.1 y223) ∧ (w'.heap[gb216]? = some (.cells #[.int .i64 a0_0, .int .i64 a0_1, .slice A0_2 l0_2.length c0_2] 32 (0, 0))) ∧ (w'.heap[gb217]? = some (.cells #[.int .i64 0, .int .i64 0, .slice none 0 0] 32 (0, 0))) ∧ (w'.heap[s_.2.2]? = some (.cells #[.int .i64 0, .int .i64 0, .slice none 0 0] 32 (0, 0))) ∧ (w.heap.size ≤ s_.2.2) ∧ (w.heap.size ≤ s_.2.2) ∧ (gb216 ≠ s_.2.2) ∧ (s_.2.2 ≠ gb216) ∧ (gb217 ≠ s_.2.2) ∧ (s_.2.2 ≠ gb217) ∧ (Below w.heap.size w w')) ?_ ?_
          rotate_left
          · intro hJ1_9_11
            refine join_ (σ := Value × Nat) 4 #[true, true, true, true, true, true, true, true, true, false, false, true, true, false, false] (fun s_ => [(17, .agg #[.int .i64 t218, .int .i64 t219, s_.1]), (5, .pointer (some ⟨s_.2, 0, none⟩))]) (fun s_ w' => (w'.cell? ⟨gb216, 0, none⟩ = some (.int .i64 a0_0) ∧ w'.cell? ⟨gb216, 1, none⟩ = some (.int .i64 a0_1) ∧ w'.cell? ⟨gb216, 2, none⟩ = some (.slice A0_2 l0_2.length c0_2)) ∧ (Kd.R k89 89 w' w.heap.size (fun _ => True) s_.1 t220) ∧ (w'.heap[gb216]? = some (.cells #[.int .i64 a0_0, .int .i64 a0_1, .slice A0_2 l0_2.length c0_2] 32 (0, 0))) ∧ (w'.heap[gb217]? = some (.cells #[.int .i64 0, .int .i64 0, .slice none 0 0] 32 (0, 0))) ∧ (w'.heap[s_.2]? = some (.cells #[.int .i64 t218, .int .i64 t219, s_.1] 32 (0, 0))) ∧ (w.heap.size ≤ s_.2) ∧ (w.heap.size ≤ s_.2) ∧ (gb216 ≠ s_.2) ∧ (s_.2 ≠ gb216) ∧ (gb217 ≠ s_.2) ∧ (s_.2 ≠ gb217) ∧ (Below w.heap.size w w')) ?_ ?_
            rotate_left
            ·intro hJ1_11_12
             refine join_ (σ := Value × Nat) 4 #[true, false, true, true, true, true, true, true, true, true, true, true, false, false, false] (fun s_ => [(25, s_.1), (26, .string (strOfNums y223)), (5, .pointer (some ⟨s_.2, 0, none⟩))]) (fun s_ w' => (w'.cell? ⟨gb216, 0, none⟩ = some (.int .i64 a0_0) ∧ w'.cell? ⟨gb216, 1, none⟩ = some (.int .i64 a0_1) ∧ w'.cell? ⟨gb216, 2, none⟩ = some (.slice A0_2 l0_2.length c0_2)) ∧ (Kd.R (Kd.int .u8) 5 w' w.heap.size (fun _ => True) s_.1 y223) ∧ (w'.heap[gb216]? = some (.cells #[.int .i64 a0_0, .int .i64 a0_1, .slice A0_2 l0_2.length c0_2] 32 (0, 0))) ∧ (w'.heap[gb217]? = some (.cells #[.int .i64 0, .int .i64 0, .slice none 0 0] 32 (0, 0))) ∧ (w'.heap[s_.2]? = some (.cells #[.int .i64 0, .int .i64 0, .slice none 0 0] 32 (0, 0))) ∧ (w.heap.size ≤ s_.2) ∧ (w.heap.size ≤ s_.2) ∧ (gb216 ≠ s_.2) ∧ (s_.2 ≠ gb216) ∧ (gb217 ≠ s_.2) ∧ (s_.2 ≠ gb217) ∧ (Below w.heap.size w w')) ?_ ?_
             rotate_left
             ·intro hJ9_10_11
              refine join_ (σ := Value × Value) 5 #[true, true, true, true, true, true, true, true, true, true, false, false, false, false, false] (fun s_ => [(17, .agg #[.int .i64 t218, .int .i64 t219, s_.1]), (25, s_.2)]) (fun s_ w' => (w'.cell? ⟨gb216, 0, none⟩ = some (.int .i64 a0_0) ∧ w'.cell? ⟨gb216, 1, none⟩ = some (.int .i64 a0_1) ∧ w'.cell? ⟨gb216, 2, none⟩ = some (.slice A0_2 l0_2.length c0_2)) ∧ (Kd.R k89 89 w' w.heap.size (fun _ => True) s_.1 t220) ∧ (Kd.R (Kd.int .u8) 5 w' w.heap.size (fun _ => True) s_.2 y223) ∧ (w'.heap[gb216]? = some (.cells #[.int .i64 a0_0, .int .i64 a0_1, .slice A0_2 l0_2.length c0_2] 32 (0, 0))) ∧ (w'.heap[gb217]? = some (.cells #[.int .i64 0, .int .i64 0, .slice none 0 0] 32 (0, 0))) ∧ (Below w.heap.size w w')) ?_ ?_
              rotate_left
              ·intro hJ1_9
               refine join_ (σ := Value × Nat) 5 #[true, true, true, true, true, true, true, true, true, false, false, true, false, false, false] (fun s_ => [(17, .agg #[.int .i64 t218, .int .i64 t219, s_.1]), (5, .pointer (some ⟨s_.2, 0, none⟩))]) (fun s_ w' => (w'.cell? ⟨gb216, 0, none⟩ = some (.int .i64 a0_0) ∧ w'.cell? ⟨gb216, 1, none⟩ = some (.int .i64 a0_1) ∧ w'.cell? ⟨gb216, 2, none⟩ = some (.slice A0_2 l0_2.length c0_2)) ∧ (Kd.R k89 89 w' w.heap.size (fun _ => True) s_.1 t220) ∧ (w'.heap[gb216]? = some (.cells #[.int .i64 a0_0, .int .i64 a0_1, .slice A0_2 l0_2.length c0_2] 32 (0, 0))) ∧ (w'.heap[gb217]? = some (.cells #[.int .i64 0, .int .i64 0, .slice none 0 0] 32 (0, 0))) ∧ (w'.heap[s_.2]? = some (.cells #[.int .i64 0, .int .i64 0, .slice none 0 0] 32 (0, 0))) ∧ (w.heap.size ≤ s_.2) ∧ (w.heap.size ≤ s_.2) ∧ (gb216 ≠ s_.2) ∧ (s_.2 ≠ gb216) ∧ (gb217 ≠ s_.2) ∧ (s_.2 ≠ gb217) ∧ (Below w.heap.size w w')) ?_ ?_
               rotate_left
               ·intro hJ1_11
                refine join_ (σ := Value) 5 #[true, false, true, true, true, true, true, true, true, true, true, false, false, false, false] (fun s_ => [(25, s_), (26, .string (strOfNums y223))]) (fun s_ w' => (w'.cell? ⟨gb216, 0, none⟩ = some (.int .i64 a0_0) ∧ w'.cell? ⟨gb216, 1, none⟩ = some (.int .i64 a0_1) ∧ w'.cell? ⟨gb216, 2, none⟩ = some (.slice A0_2 l0_2.length c0_2)) ∧ (Kd.R (Kd.int .u8) 5 w' w.heap.size (fun _ => True) s_ y223) ∧ (w'.heap[gb216]? = some (.cells #[.int .i64 a0_0, .int .i64 a0_1, .slice A0_2 l0_2.length c0_2] 32 (0, 0))) ∧ (w'.heap[gb217]? = some (.cells #[.int .i64 0, .int .i64 0, .slice none 0 0] 32 (0, 0))) ∧ (Below w.heap.size w w')) ?_ ?_
                rotate_left
                ·intro hJ9_10
                 refine join_ (σ := Value × Nat) 5 #[true, false, true, true, true, true, true, true, true, true, false, true, false, false, false] (fun s_ => [(25, s_.1), (5, .pointer (some ⟨s_.2, 0, none⟩))]) (fun s_ w' => (w'.cell? ⟨gb216, 0, none⟩ = some (.int .i64 a0_0) ∧ w'.cell? ⟨gb216, 1, none⟩ = some (.int .i64 a0_1) ∧ w'.cell? ⟨gb216, 2, none⟩ = some (.slice A0_2 l0_2.length c0_2)) ∧ (Kd.R (Kd.int .u8) 5 w' w.heap.size (fun _ => True) s_.1 y223) ∧ (w'.heap[gb216]? = some (.cells #[.int .i64 a0_0, .int .i64 a0_1, .slice A0_2 l0_2.length c0_2] 32 (0, 0))) ∧ (w'.heap[gb217]? = some (.cells #[.int .i64 0, .int .i64 0, .slice none 0 0] 32 (0, 0))) ∧ (w'.heap[s_.2]? = some (.cells #[.int .i64 0, .int .i64 0, .slice none 0 0] 32 (0, 0))) ∧ (w.heap.size ≤ s_.2) ∧ (w.heap.size ≤ s_.2) ∧ (gb216 ≠ s_.2) ∧ (s_.2 ≠ gb216) ∧ (gb217 ≠ s_.2) ∧ (s_.2 ≠ gb217) ∧ (Below w.heap.size w w')) ?_ ?_
                 rotate_left
                 ·intro hJ9_11
                  refine join_ (σ := Value) 6 #[true, true, true, true, true, true, true, true, true, false, false, false, false, false, false] (fun s_ => [(17, .agg #[.int .i64 t218, .int .i64 t219, s_])]) (fun s_ w' => (w'.cell? ⟨gb216, 0, none⟩ = some (.int .i64 a0_0) ∧ w'.cell? ⟨gb216, 1, none⟩ = some (.int .i64 a0_1) ∧ w'.cell? ⟨gb216, 2, none⟩ = some (.slice A0_2 l0_2.length c0_2)) ∧ (Kd.R k89 89 w' w.heap.size (fun _ => True) s_ t220) ∧ (w'.heap[gb216]? = some (.cells #[.int .i64 a0_0, .int .i64 a0_1, .slice A0_2 l0_2.length c0_2] 32 (0, 0))) ∧ (w'.heap[gb217]? = some (.cells #[.int .i64 0, .int .i64 0, .slice none 0 0] 32 (0, 0))) ∧ (Below w.heap.size w w')) ?_ ?_
                  rotate_left
                  ·intro hJ1
                   refine join_ (σ := Value) 6 #[true, false, true, true, true, true, true, true, true, true, false, false, false, false, false] (fun s_ => [(25, s_)]) (fun s_ w' => (w'.cell? ⟨gb216, 0, none⟩ = some (.int .i64 a0_0) ∧ w'.cell? ⟨gb216, 1, none⟩ = some (.int .i64 a0_1) ∧ w'.cell? ⟨gb216, 2, none⟩ = some (.slice A0_2 l0_2.length c0_2)) ∧ (Kd.R (Kd.int .u8) 5 w' w.heap.size (fun _ => True) s_ y223) ∧ (w'.heap[gb216]? = some (.cells #[.int .i64 a0_0, .int .i64 a0_1, .slice A0_2 l0_2.length c0_2] 32 (0, 0))) ∧ (w'.heap[gb217]? = some (.cells #[.int .i64 0, .int .i64 0, .slice none 0 0] 32 (0, 0))) ∧ (Below w.heap.size w w')) ?_ ?_
                   rotate_left
                   ·intro hJ9
                    refine join_ (σ := Nat) 6 #[true, false, true, true, true, true, true, true, true, false, false, true, false, false, false] (fun s_ => [(5, .pointer (some ⟨s_, 0, none⟩))]) (fun s_ w' => (w'.cell? ⟨gb216, 0, none⟩ = some (.int .i64 a0_0) ∧ w'.cell? ⟨gb216, 1, none⟩ = some (.int .i64 a0_1) ∧ w'.cell? ⟨gb216, 2, none⟩ = some (.slice A0_2 l0_2.length c0_2)) ∧ (w'.heap[gb216]? = some (.cells #[.int .i64 a0_0, .int .i64 a0_1, .slice A0_2 l0_2.length c0_2] 32 (0, 0))) ∧ (w'.heap[gb217]? = some (.cells #[.int .i64 0, .int .i64 0, .slice none 0 0] 32 (0, 0))) ∧ (w'.heap[s_]? = some (.cells #[.int .i64 0, .int .i64 0, .slice none 0 0] 32 (0, 0))) ∧ (w.heap.size ≤ s_) ∧ (w.heap.size ≤ s_) ∧ (gb216 ≠ s_) ∧ (s_ ≠ gb216) ∧ (gb217 ≠ s_) ∧ (s_ ≠ gb217) ∧ (Below w.heap.size w w')) ?_ ?_
                    rotate_left
                    ·intro hJ11
                     refine three_ (i := 1) (j := 9) (k := 11) (Ni := some 17) (Nj := some 25) (Nk := some 5) #[true, true, true, true, true, true, true, true, true, false, false, false, false, false, false] #[true, false, true, true, true, true, true, true, true, true, false, false, false, false, false] #[true, false, true, true, true, true, true, true, true, false, false, true, false, false, false] rfl rfl rfl rfl rfl rfl (three_of HT_.out (by kernel_rfl)) (by decide) (by decide) (by decide) (fun K hK => ?_) (fun K hK => ?_) (fun K hK => ?_)
                     ·skip
                      refine goes_ Try.func77 (by kernel_rfl) rfl #[.agg #[.int .i64 a0_0, .int .i64 a0_1, .slice A0_2 l0_2.length c0_2]] (by rfl) rfl rfl zM ?_
                      with_reducible refine (spec_l01Empty.calls a0_0 a0_1 _ _ l0_2 t218 t219 t220 _ ?side1 ?side2 A3.out).mono ?_
                      (case side1 => repeat (first | exact (Kd.C_below HR0_2.out HB.out) | (with_reducible refine Kd.C_alloc ?_ _) | (with_reducible refine Kd.C_drewN ?_ _) | (with_reducible refine Kd.C_drew ?_)))
                      (case side2 => exact HC0_2.out)
                      rintro e w9 ⟨v221, rfl, ho0, hb⟩
                      refine ⟨_, rfl, ?_⟩
                      have n0_ := Aside0.mk (Kd.R_lower ho0 (below_size zB))
                      have n1_ := Aside0.mk (blk_below (g := gb216) (o := .cells #[.int .i64 a0_0, .int .i64 a0_1, .slice A0_2 l0_2.length c0_2] 32 (0, 0)) zK hb)
                      have n2_ := Aside0.mk (blk_below (g := gb217) (o := .cells #[.int .i64 0, .int .i64 0, .slice none 0 0] 32 (0, 0)) zK hb)
                      have n3_ := Aside0.mk (below_step zB hb)
                      clear BK216
                      clear BK217
                      clear HB
                      have HO222 := n0_
                      have BK216 := n1_
                      have BK217 := n2_
                      have HB := n3_
                      clear n0_ n1_ n2_ n3_
                      (try clear hb)
                      (try clear hb2)
                      (try clear hk)
                      (try clear hi)
                      (try clear ho0)
                      refine hK.out _ _ ⟨(blk_cell BK216.out 0).trans rfl, (blk_cell BK216.out 1).trans rfl, (blk_cell BK216.out 2).trans rfl⟩ (fun hHeld => ?_)
                      clear hK K
                      refine norm_ (a' := ?_) ?_ ?_
                      rotate_left
                      ·show Act.put _ (some 17) _ = _
                       simp only [Act.put, List.setIfInBounds_toArray, List.set_cons_zero, List.set_cons_succ, i64_w, i32_w]
                       rfl
                      exact norm_ (by first | (simp only [putAll, Act.put, List.setIfInBounds_toArray, List.set_cons_zero, List.set_cons_succ]; done) | (simp only [putAll, Act.put, List.setIfInBounds_toArray, List.set_cons_zero, List.set_cons_succ]; rfl)) (hJ1 (v221) _ ⟨hHeld, zR, zK, zK, zB⟩)
                     ·skip
                      refine Kd.R_lit_step (Kd.int .u8) _ 5 ?hg (N := 25) ?hd (xs := ([(wrap64 ((wrap64 (48 + (ji4))) - 1)) % 256] : List Int)) (inner := [.int .u8 ((wrap64 ((wrap64 (48 + (ji4))) - 1)) % 256)]) (ok := fun _ => True) (okp := fun _ => True) ?hr ?hp (fun _ hk => hk) trivial (Below.refl _ _) (Nat.le_refl _) (by simp) ?_; (case hd => rfl); (case hg => rfl); (case hr => first | (go_simp; done) | (go_simp; rfl)); (case hp => exact (Reps.one (show Kd.M (Kd.int .u8) _ _ _ ((wrap64 ((wrap64 (48 + (ji4))) - 1)) % 256) [.int .u8 ((wrap64 ((wrap64 (48 + (ji4))) - 1)) % 256)] from rfl) (Reps.none _ _)))
                      intro v224 w9 ho10 hb hg_ hnew_
                      clear hg_ hnew_
                      (first | rw [← Ny223.out] at ho10 | (simp only [Int.reduceToNat] at ho10; rw [← Ny223.out] at ho10))
                      have n0_ := Aside0.mk (Kd.R_lower ho10 (below_size zB))
                      have n1_ := Aside0.mk (blk_below (g := gb216) (o := .cells #[.int .i64 a0_0, .int .i64 a0_1, .slice A0_2 l0_2.length c0_2] 32 (0, 0)) zK hb)
                      have n2_ := Aside0.mk (blk_below (g := gb217) (o := .cells #[.int .i64 0, .int .i64 0, .slice none 0 0] 32 (0, 0)) zK hb)
                      have n3_ := Aside0.mk (below_step zB hb)
                      clear BK216
                      clear BK217
                      clear HB
                      have HO225 := n0_
                      have BK216 := n1_
                      have BK217 := n2_
                      have HB := n3_
                      clear n0_ n1_ n2_ n3_
                      clear hb ho10
                      refine hK.out _ _ ⟨(blk_cell BK216.out 0).trans rfl, (blk_cell BK216.out 1).trans rfl, (blk_cell BK216.out 2).trans rfl⟩ (fun hHeld => ?_)
                      clear hK K
                      refine norm_ (a' := ?_) ?_ ?_
                      rotate_left
                      ·show Act.put _ (some 25) _ = _
                       simp only [Act.put, List.setIfInBounds_toArray, List.set_cons_zero, List.set_cons_succ, i64_w, i32_w]
                       rfl
                      exact norm_ (by first | (simp only [putAll, Act.put, List.setIfInBounds_toArray, List.set_cons_zero, List.set_cons_succ]; done) | (simp only [putAll, Act.put, List.setIfInBounds_toArray, List.set_cons_zero, List.set_cons_succ]; rfl)) (hJ9 (v224) _ ⟨hHeld, zR, zK, zK, zB⟩)
                     ·skip
                      refine box_step ?hg (N := 5) ?hd (cs := #[.int .i64 0, .int .i64 0, .slice none 0 0]) (t := 32) ?hr ?_; (case hd => rfl); (case hg => rfl); (case hr => first | (go_simp; done) | (go_simp; rfl))
                      intro gb226 hg w9 hbox hb
                      have n0_ := Aside0.mk (blk_below (g := gb216) (o := .cells #[.int .i64 a0_0, .int .i64 a0_1, .slice A0_2 l0_2.length c0_2] 32 (0, 0)) zK hb)
                      have n1_ := Aside0.mk (blk_below (g := gb217) (o := .cells #[.int .i64 0, .int .i64 0, .slice none 0 0] 32 (0, 0)) zK hb)
                      have n2_ := Aside0.mk (below_step zB hb)
                      have n3_ := Aside0.mk (hbox)
                      have n4_ := Aside0.mk (zG : w.heap.size ≤ gb226)
                      have n5_ := Aside0.mk (zG : w.heap.size ≤ gb226)
                      have n6_ := Aside0.mk ((by rw [hg]; exact Nat.ne_of_lt (blk_lt (g := gb216) (o := .cells #[.int .i64 a0_0, .int .i64 a0_1, .slice A0_2 l0_2.length c0_2] 32 (0, 0)) zK) : gb216 ≠ gb226))
                      have n7_ := Aside0.mk ((by rw [hg]; exact Nat.ne_of_gt (blk_lt (g := gb216) (o := .cells #[.int .i64 a0_0, .int .i64 a0_1, .slice A0_2 l0_2.length c0_2] 32 (0, 0)) zK) : gb226 ≠ gb216))
                      have n8_ := Aside0.mk ((by rw [hg]; exact Nat.ne_of_lt (blk_lt (g := gb217) (o := .cells #[.int .i64 0, .int .i64 0, .slice none 0 0] 32 (0, 0)) zK) : gb217 ≠ gb226))
                      have n9_ := Aside0.mk ((by rw [hg]; exact Nat.ne_of_gt (blk_lt (g := gb217) (o := .cells #[.int .i64 0, .int .i64 0, .slice none 0 0] 32 (0, 0)) zK) : gb226 ≠ gb217))
                      clear BK216
                      clear BK217
                      clear HB
                      have BK216 := n0_
                      have BK217 := n1_
                      have HB := n2_
                      have BK226 := n3_
                      have GW226 := n4_
                      have GE226 := n5_
                      have NB216_226 := n6_
                      have NB226_216 := n7_
                      have NB217_226 := n8_
                      have NB226_217 := n9_
                      clear n0_ n1_ n2_ n3_ n4_ n5_ n6_ n7_ n8_ n9_
                      clear hb hbox hg
                      refine hK.out _ _ ⟨(blk_cell BK216.out 0).trans rfl, (blk_cell BK216.out 1).trans rfl, (blk_cell BK216.out 2).trans rfl⟩ (fun hHeld => ?_)
                      clear hK K
                      refine norm_ (a' := ?_) ?_ ?_
                      rotate_left
                      ·show Act.put _ (some 5) _ = _
                       simp only [Act.put, List.setIfInBounds_toArray, List.set_cons_zero, List.set_cons_succ, i64_w, i32_w]
                       rfl
                      exact norm_ (by first | (simp only [putAll, Act.put, List.setIfInBounds_toArray, List.set_cons_zero, List.set_cons_succ]; done) | (simp only [putAll, Act.put, List.setIfInBounds_toArray, List.set_cons_zero, List.set_cons_succ]; rfl)) (hJ11 (gb226) _ ⟨hHeld, zK, zK, zK, GW226.out, GE226.out, NB216_226.out, NB226_216.out, NB217_226.out, NB226_217.out, zB⟩)
                    ·skip
                     rintro gb226 w10 ⟨hS_, h0_, h1_, h2_, h3_, h4_, h5_, h6_, h7_, h8_, h9_⟩
                     have n0_ : Aside0 (w10.heap[gb216]? = some (.cells #[.int .i64 a0_0, .int .i64 a0_1, .slice A0_2 l0_2.length c0_2] 32 (0, 0))) := ⟨h0_⟩
                     have n1_ : Aside0 (w10.heap[gb217]? = some (.cells #[.int .i64 0, .int .i64 0, .slice none 0 0] 32 (0, 0))) := ⟨h1_⟩
                     have n2_ : Aside0 (w10.heap[gb226]? = some (.cells #[.int .i64 0, .int .i64 0, .slice none 0 0] 32 (0, 0))) := ⟨h2_⟩
                     have n3_ : Aside0 (w.heap.size ≤ gb226) := ⟨h3_⟩
                     have n4_ : Aside0 (w.heap.size ≤ gb226) := ⟨h4_⟩
                     have n5_ : Aside0 (gb216 ≠ gb226) := ⟨h5_⟩
                     have n6_ : Aside0 (gb226 ≠ gb216) := ⟨h6_⟩
                     have n7_ : Aside0 (gb217 ≠ gb226) := ⟨h7_⟩
                     have n8_ : Aside0 (gb226 ≠ gb217) := ⟨h8_⟩
                     have n9_ : Aside0 (Below w.heap.size w w10) := ⟨h9_⟩
                     clear BK216
                     clear BK217
                     clear HB
                     clear h0_ h1_ h2_ h3_ h4_ h5_ h6_ h7_ h8_ h9_
                     have BK216 := n0_
                     have BK217 := n1_
                     have BK226 := n2_
                     have GW226 := n3_
                     have GE226 := n4_
                     have NB216_226 := n5_
                     have NB226_216 := n6_
                     have NB217_226 := n7_
                     have NB226_217 := n8_
                     have HB := n9_
                     clear n0_ n1_ n2_ n3_ n4_ n5_ n6_ n7_ n8_ n9_
                     have hHeld : w10.cell? ⟨gb216, 0, none⟩ = some (.int .i64 a0_0) ∧ w10.cell? ⟨gb216, 1, none⟩ = some (.int .i64 a0_1) ∧ w10.cell? ⟨gb216, 2, none⟩ = some (.slice A0_2 l0_2.length c0_2) := hS_
                     refine norm_ (a' := ?_) ?_ ?_
                     rotate_left
                     ·simp only [putAll, Act.put, List.setIfInBounds_toArray, List.set_cons_zero, List.set_cons_succ]
                      rfl
                     refine two_ (i := 1) (j := 9) (Ni := some 17) (Nj := some 25) #[true, true, true, true, true, true, true, true, true, false, false, true, false, false, false] #[true, false, true, true, true, true, true, true, true, true, false, true, false, false, false] rfl rfl rfl rfl (two_of HT_.out (by kernel_rfl)) (by decide) (by decide) (fun K hK => ?_) (fun K hK => ?_)
                     ·skip
                      refine goes_ Try.func77 (by kernel_rfl) rfl #[.agg #[.int .i64 a0_0, .int .i64 a0_1, .slice A0_2 l0_2.length c0_2]] (by rfl) rfl rfl zM ?_
                      with_reducible refine (spec_l01Empty.calls a0_0 a0_1 _ _ l0_2 t218 t219 t220 _ ?side1 ?side2 A3.out).mono ?_
                      (case side1 => repeat (first | exact (Kd.C_below HR0_2.out HB.out) | (with_reducible refine Kd.C_alloc ?_ _) | (with_reducible refine Kd.C_drewN ?_ _) | (with_reducible refine Kd.C_drew ?_)))
                      (case side2 => exact HC0_2.out)
                      rintro e w11 ⟨v221, rfl, ho0, hb⟩
                      refine ⟨_, rfl, ?_⟩
                      have n0_ := Aside0.mk (Kd.R_lower ho0 (below_size zB))
                      have n1_ := Aside0.mk (blk_below (g := gb216) (o := .cells #[.int .i64 a0_0, .int .i64 a0_1, .slice A0_2 l0_2.length c0_2] 32 (0, 0)) zK hb)
                      have n2_ := Aside0.mk (blk_below (g := gb217) (o := .cells #[.int .i64 0, .int .i64 0, .slice none 0 0] 32 (0, 0)) zK hb)
                      have n3_ := Aside0.mk (blk_below (g := gb226) (o := .cells #[.int .i64 0, .int .i64 0, .slice none 0 0] 32 (0, 0)) zK hb)
                      have n4_ := Aside0.mk (below_step zB hb)
                      clear BK216
                      clear BK217
                      clear BK226
                      clear HB
                      have HO222 := n0_
                      have BK216 := n1_
                      have BK217 := n2_
                      have BK226 := n3_
                      have HB := n4_
                      clear n0_ n1_ n2_ n3_ n4_
                      (try clear hb)
                      (try clear hb2)
                      (try clear hk)
                      (try clear hi)
                      (try clear ho0)
                      refine hK.out _ _ ⟨(blk_cell BK216.out 0).trans rfl, (blk_cell BK216.out 1).trans rfl, (blk_cell BK216.out 2).trans rfl⟩ (fun hHeld => ?_)
                      clear hK K
                      refine norm_ (a' := ?_) ?_ ?_
                      rotate_left
                      ·show Act.put _ (some 17) _ = _
                       simp only [Act.put, List.setIfInBounds_toArray, List.set_cons_zero, List.set_cons_succ, i64_w, i32_w]
                       rfl
                      exact norm_ (by first | (simp only [putAll, Act.put, List.setIfInBounds_toArray, List.set_cons_zero, List.set_cons_succ]; done) | (simp only [putAll, Act.put, List.setIfInBounds_toArray, List.set_cons_zero, List.set_cons_succ]; rfl)) (hJ1_11 (v221, gb226) _ ⟨hHeld, zR, zK, zK, zK, GW226.out, GE226.out, NB216_226.out, NB226_216.out, NB217_226.out, NB226_217.out, zB⟩)
                     ·skip
                      refine Kd.R_lit_step (Kd.int .u8) _ 5 ?hg (N := 25) ?hd (xs := ([(wrap64 ((wrap64 (48 + (ji4))) - 1)) % 256] : List Int)) (inner := [.int .u8 ((wrap64 ((wrap64 (48 + (ji4))) - 1)) % 256)]) (ok := fun _ => True) (okp := fun _ => True) ?hr ?hp (fun _ hk => hk) trivial (Below.refl _ _) (Nat.le_refl _) (by simp) ?_; (case hd => rfl); (case hg => rfl); (case hr => first | (go_simp; done) | (go_simp; rfl)); (case hp => exact (Reps.one (show Kd.M (Kd.int .u8) _ _ _ ((wrap64 ((wrap64 (48 + (ji4))) - 1)) % 256) [.int .u8 ((wrap64 ((wrap64 (48 + (ji4))) - 1)) % 256)] from rfl) (Reps.none _ _)))
                      intro v224 w11 ho12 hb hg_ hnew_
                      clear hg_ hnew_
                      (first | rw [← Ny223.out] at ho12 | (simp only [Int.reduceToNat] at ho12; rw [← Ny223.out] at ho12))
                      have n0_ := Aside0.mk (Kd.R_lower ho12 (below_size zB))
                      have n1_ := Aside0.mk (blk_below (g := gb216) (o := .cells #[.int .i64 a0_0, .int .i64 a0_1, .slice A0_2 l0_2.length c0_2] 32 (0, 0)) zK hb)
                      have n2_ := Aside0.mk (blk_below (g := gb217) (o := .cells #[.int .i64 0, .int .i64 0, .slice none 0 0] 32 (0, 0)) zK hb)
                      have n3_ := Aside0.mk (blk_below (g := gb226) (o := .cells #[.int .i64 0, .int .i64 0, .slice none 0 0] 32 (0, 0)) zK hb)
                      have n4_ := Aside0.mk (below_step zB hb)
                      clear BK216
                      clear BK217
                      clear BK226
                      clear HB
                      have HO225 := n0_
                      have BK216 := n1_
                      have BK217 := n2_
                      have BK226 := n3_
                      have HB := n4_
                      clear n0_ n1_ n2_ n3_ n4_
                      clear hb ho12
                      refine hK.out _ _ ⟨(blk_cell BK216.out 0).trans rfl, (blk_cell BK216.out 1).trans rfl, (blk_cell BK216.out 2).trans rfl⟩ (fun hHeld => ?_)
                      clear hK K
                      refine norm_ (a' := ?_) ?_ ?_
                      rotate_left
                      ·show Act.put _ (some 25) _ = _
                       simp only [Act.put, List.setIfInBounds_toArray, List.set_cons_zero, List.set_cons_succ, i64_w, i32_w]
                       rfl
                      exact norm_ (by first | (simp only [putAll, Act.put, List.setIfInBounds_toArray, List.set_cons_zero, List.set_cons_succ]; done) | (simp only [putAll, Act.put, List.setIfInBounds_toArray, List.set_cons_zero, List.set_cons_succ]; rfl)) (hJ9_11 (v224, gb226) _ ⟨hHeld, zR, zK, zK, zK, GW226.out, GE226.out, NB216_226.out, NB226_216.out, NB217_226.out, NB226_217.out, zB⟩)
                   ·skip
                    rintro v224 w11 ⟨hS_, h0_, h1_, h2_, h3_⟩
                    have n0_ : Aside0 (Kd.R (Kd.int .u8) 5 w11 w.heap.size (fun _ => True) v224 y223) := ⟨h0_⟩
                    have n1_ : Aside0 (w11.heap[gb216]? = some (.cells #[.int .i64 a0_0, .int .i64 a0_1, .slice A0_2 l0_2.length c0_2] 32 (0, 0))) := ⟨h1_⟩
                    have n2_ : Aside0 (w11.heap[gb217]? = some (.cells #[.int .i64 0, .int .i64 0, .slice none 0 0] 32 (0, 0))) := ⟨h2_⟩
                    have n3_ : Aside0 (Below w.heap.size w w11) := ⟨h3_⟩
                    clear BK216
                    clear BK217
                    clear HB
                    clear h0_ h1_ h2_ h3_
                    have HO225 := n0_
                    have BK216 := n1_
                    have BK217 := n2_
                    have HB := n3_
                    clear n0_ n1_ n2_ n3_
                    have hHeld : w11.cell? ⟨gb216, 0, none⟩ = some (.int .i64 a0_0) ∧ w11.cell? ⟨gb216, 1, none⟩ = some (.int .i64 a0_1) ∧ w11.cell? ⟨gb216, 2, none⟩ = some (.slice A0_2 l0_2.length c0_2) := hS_
                    refine norm_ (a' := ?_) ?_ ?_
                    rotate_left
                    ·simp only [putAll, Act.put, List.setIfInBounds_toArray, List.set_cons_zero, List.set_cons_succ]
                     rfl
                    refine three_ (i := 1) (j := 10) (k := 11) (Ni := some 17) (Nj := some 26) (Nk := some 5) #[true, true, true, true, true, true, true, true, true, true, false, false, false, false, false] #[true, false, true, true, true, true, true, true, true, true, true, false, false, false, false] #[true, false, true, true, true, true, true, true, true, true, false, true, false, false, false] rfl rfl rfl rfl rfl rfl (three_of HT_.out (by kernel_rfl)) (by decide) (by decide) (by decide) (fun K hK => ?_) (fun K hK => ?_) (fun K hK => ?_)
                    ·skip
                     refine goes_ Try.func77 (by kernel_rfl) rfl #[.agg #[.int .i64 a0_0, .int .i64 a0_1, .slice A0_2 l0_2.length c0_2]] (by rfl) rfl rfl zM ?_
                     with_reducible refine (spec_l01Empty.calls a0_0 a0_1 _ _ l0_2 t218 t219 t220 _ ?side1 ?side2 A3.out).mono ?_
                     (case side1 => repeat (first | exact (Kd.C_below HR0_2.out HB.out) | (with_reducible refine Kd.C_alloc ?_ _) | (with_reducible refine Kd.C_drewN ?_ _) | (with_reducible refine Kd.C_drew ?_)))
                     (case side2 => exact HC0_2.out)
                     rintro e w12 ⟨v221, rfl, ho0, hb⟩
                     refine ⟨_, rfl, ?_⟩
                     have n0_ := Aside0.mk (Kd.R_below (by (with_reducible repeat (first | apply Kd.R_alloc | apply Kd.R_drewN | apply Kd.R_drew)); exact HO225.out) hb)
                     have n1_ := Aside0.mk (Kd.R_lower ho0 (below_size zB))
                     have n2_ := Aside0.mk (blk_below (g := gb216) (o := .cells #[.int .i64 a0_0, .int .i64 a0_1, .slice A0_2 l0_2.length c0_2] 32 (0, 0)) zK hb)
                     have n3_ := Aside0.mk (blk_below (g := gb217) (o := .cells #[.int .i64 0, .int .i64 0, .slice none 0 0] 32 (0, 0)) zK hb)
                     have n4_ := Aside0.mk (below_step zB hb)
                     clear HO225
                     clear BK216
                     clear BK217
                     clear HB
                     have HO225 := n0_
                     have HO222 := n1_
                     have BK216 := n2_
                     have BK217 := n3_
                     have HB := n4_
                     clear n0_ n1_ n2_ n3_ n4_
                     (try clear hb)
                     (try clear hb2)
                     (try clear hk)
                     (try clear hi)
                     (try clear ho0)
                     refine hK.out _ _ ⟨(blk_cell BK216.out 0).trans rfl, (blk_cell BK216.out 1).trans rfl, (blk_cell BK216.out 2).trans rfl⟩ (fun hHeld => ?_)
                     clear hK K
                     refine norm_ (a' := ?_) ?_ ?_
                     rotate_left
                     ·show Act.put _ (some 17) _ = _
                      simp only [Act.put, List.setIfInBounds_toArray, List.set_cons_zero, List.set_cons_succ, i64_w, i32_w]
                      rfl
                     exact norm_ (by first | (simp only [putAll, Act.put, List.setIfInBounds_toArray, List.set_cons_zero, List.set_cons_succ]; done) | (simp only [putAll, Act.put, List.setIfInBounds_toArray, List.set_cons_zero, List.set_cons_succ]; rfl)) (hJ1_9 (v221, v224) _ ⟨hHeld, zR, zR, zK, zK, zB⟩)
                    ·skip
                     have hcv12 := own_string (P := Try.prog) Try.underlying112 Try.underlying5 Try.underlying9 (Kd.own_of_R HO225.out)
                     refine value_ (w1 := ?_) (v := ?_) (by rfl) rfl ?_ ?_
                     rotate_left 2
                     ·go_simp
                      constructor
                      ·rfl
                      ·rfl
                     clear hcv12
                     refine hK.out _ _ ⟨(blk_cell BK216.out 0).trans rfl, (blk_cell BK216.out 1).trans rfl, (blk_cell BK216.out 2).trans rfl⟩ (fun hHeld => ?_)
                     clear hK K
                     refine norm_ (a' := ?_) ?_ ?_
                     rotate_left
                     ·show Act.put _ (some 26) _ = _
                      simp only [Act.put, List.setIfInBounds_toArray, List.set_cons_zero, List.set_cons_succ, i64_w, i32_w]
                      rfl
                     exact norm_ (by first | (simp only [putAll, Act.put, List.setIfInBounds_toArray, List.set_cons_zero, List.set_cons_succ]; done) | (simp only [putAll, Act.put, List.setIfInBounds_toArray, List.set_cons_zero, List.set_cons_succ]; rfl)) (hJ9_10 (v224) _ ⟨hHeld, zR, zK, zK, zB⟩)
                    ·skip
                     refine box_step ?hg (N := 5) ?hd (cs := #[.int .i64 0, .int .i64 0, .slice none 0 0]) (t := 32) ?hr ?_; (case hd => rfl); (case hg => rfl); (case hr => first | (go_simp; done) | (go_simp; rfl))
                     intro gb226 hg w12 hbox hb
                     have n0_ := Aside0.mk (Kd.R_below (by (with_reducible repeat (first | apply Kd.R_alloc | apply Kd.R_drewN | apply Kd.R_drew)); exact HO225.out) hb)
                     have n1_ := Aside0.mk (blk_below (g := gb216) (o := .cells #[.int .i64 a0_0, .int .i64 a0_1, .slice A0_2 l0_2.length c0_2] 32 (0, 0)) zK hb)
                     have n2_ := Aside0.mk (blk_below (g := gb217) (o := .cells #[.int .i64 0, .int .i64 0, .slice none 0 0] 32 (0, 0)) zK hb)
                     have n3_ := Aside0.mk (below_step zB hb)
                     have n4_ := Aside0.mk (hbox)
                     have n5_ := Aside0.mk (zG : w.heap.size ≤ gb226)
                     have n6_ := Aside0.mk (zG : w.heap.size ≤ gb226)
                     have n7_ := Aside0.mk ((by rw [hg]; exact Nat.ne_of_lt (blk_lt (g := gb216) (o := .cells #[.int .i64 a0_0, .int .i64 a0_1, .slice A0_2 l0_2.length c0_2] 32 (0, 0)) zK) : gb216 ≠ gb226))
                     have n8_ := Aside0.mk ((by rw [hg]; exact Nat.ne_of_gt (blk_lt (g := gb216) (o := .cells #[.int .i64 a0_0, .int .i64 a0_1, .slice A0_2 l0_2.length c0_2] 32 (0, 0)) zK) : gb226 ≠ gb216))
                     have n9_ := Aside0.mk ((by rw [hg]; exact Nat.ne_of_lt (blk_lt (g := gb217) (o := .cells #[.int .i64 0, .int .i64 0, .slice none 0 0] 32 (0, 0)) zK) : gb217 ≠ gb226))
                     have n10_ := Aside0.mk ((by rw [hg]; exact Nat.ne_of_gt (blk_lt (g := gb217) (o := .cells #[.int .i64 0, .int .i64 0, .slice none 0 0] 32 (0, 0)) zK) : gb226 ≠ gb217))
                     clear HO225
                     clear BK216
                     clear BK217
                     clear HB
                     have HO225 := n0_
                     have BK216 := n1_
                     have BK217 := n2_
                     have HB := n3_
                     have BK226 := n4_
                     have GW226 := n5_
                     have GE226 := n6_
                     have NB216_226 := n7_
                     have NB226_216 := n8_
                     have NB217_226 := n9_
                     have NB226_217 := n10_
                     clear n0_ n1_ n2_ n3_ n4_ n5_ n6_ n7_ n8_ n9_ n10_
                     clear hb hbox hg
                     refine hK.out _ _ ⟨(blk_cell BK216.out 0).trans rfl, (blk_cell BK216.out 1).trans rfl, (blk_cell BK216.out 2).trans rfl⟩ (fun hHeld => ?_)
                     clear hK K
                     refine norm_ (a' := ?_) ?_ ?_
                     rotate_left
                     ·show Act.put _ (some 5) _ = _
                      simp only [Act.put, List.setIfInBounds_toArray, List.set_cons_zero, List.set_cons_succ, i64_w, i32_w]
                      rfl
                     exact norm_ (by first | (simp only [putAll, Act.put, List.setIfInBounds_toArray, List.set_cons_zero, List.set_cons_succ]; done) | (simp only [putAll, Act.put, List.setIfInBounds_toArray, List.set_cons_zero, List.set_cons_succ]; rfl)) (hJ9_11 (v224, gb226) _ ⟨hHeld, zR, zK, zK, zK, GW226.out, GE226.out, NB216_226.out, NB226_216.out, NB217_226.out, NB226_217.out, zB⟩)
                  ·skip
                   rintro v221 w10 ⟨hS_, h0_, h1_, h2_, h3_⟩
                   have n0_ : Aside0 (Kd.R k89 89 w10 w.heap.size (fun _ => True) v221 t220) := ⟨h0_⟩
                   have n1_ : Aside0 (w10.heap[gb216]? = some (.cells #[.int .i64 a0_0, .int .i64 a0_1, .slice A0_2 l0_2.length c0_2] 32 (0, 0))) := ⟨h1_⟩
                   have n2_ : Aside0 (w10.heap[gb217]? = some (.cells #[.int .i64 0, .int .i64 0, .slice none 0 0] 32 (0, 0))) := ⟨h2_⟩
                   have n3_ : Aside0 (Below w.heap.size w w10) := ⟨h3_⟩
                   clear BK216
                   clear BK217
                   clear HB
                   clear h0_ h1_ h2_ h3_
                   have HO222 := n0_
                   have BK216 := n1_
                   have BK217 := n2_
                   have HB := n3_
                   clear n0_ n1_ n2_ n3_
                   have hHeld : w10.cell? ⟨gb216, 0, none⟩ = some (.int .i64 a0_0) ∧ w10.cell? ⟨gb216, 1, none⟩ = some (.int .i64 a0_1) ∧ w10.cell? ⟨gb216, 2, none⟩ = some (.slice A0_2 l0_2.length c0_2) := hS_
                   refine norm_ (a' := ?_) ?_ ?_
                   rotate_left
                   ·simp only [putAll, Act.put, List.setIfInBounds_toArray, List.set_cons_zero, List.set_cons_succ]
                    rfl
                   refine two_ (i := 9) (j := 11) (Ni := some 25) (Nj := some 5) #[true, true, true, true, true, true, true, true, true, true, false, false, false, false, false] #[true, true, true, true, true, true, true, true, true, false, false, true, false, false, false] rfl rfl rfl rfl (two_of HT_.out (by kernel_rfl)) (by decide) (by decide) (fun K hK => ?_) (fun K hK => ?_)
                   ·skip
                    refine Kd.R_lit_step (Kd.int .u8) _ 5 ?hg (N := 25) ?hd (xs := ([(wrap64 ((wrap64 (48 + (ji4))) - 1)) % 256] : List Int)) (inner := [.int .u8 ((wrap64 ((wrap64 (48 + (ji4))) - 1)) % 256)]) (ok := fun _ => True) (okp := fun _ => True) ?hr ?hp (fun _ hk => hk) trivial (Below.refl _ _) (Nat.le_refl _) (by simp) ?_; (case hd => rfl); (case hg => rfl); (case hr => first | (go_simp; done) | (go_simp; rfl)); (case hp => exact (Reps.one (show Kd.M (Kd.int .u8) _ _ _ ((wrap64 ((wrap64 (48 + (ji4))) - 1)) % 256) [.int .u8 ((wrap64 ((wrap64 (48 + (ji4))) - 1)) % 256)] from rfl) (Reps.none _ _)))
                    intro v224 w11 ho12 hb hg_ hnew_
                    clear hg_ hnew_
                    (first | rw [← Ny223.out] at ho12 | (simp only [Int.reduceToNat] at ho12; rw [← Ny223.out] at ho12))
                    have n0_ := Aside0.mk (Kd.R_below (by (with_reducible repeat (first | apply Kd.R_alloc | apply Kd.R_drewN | apply Kd.R_drew)); exact HO222.out) hb)
                    have n1_ := Aside0.mk (Kd.R_lower ho12 (below_size zB))
                    have n2_ := Aside0.mk (blk_below (g := gb216) (o := .cells #[.int .i64 a0_0, .int .i64 a0_1, .slice A0_2 l0_2.length c0_2] 32 (0, 0)) zK hb)
                    have n3_ := Aside0.mk (blk_below (g := gb217) (o := .cells #[.int .i64 0, .int .i64 0, .slice none 0 0] 32 (0, 0)) zK hb)
                    have n4_ := Aside0.mk (below_step zB hb)
                    clear HO222
                    clear BK216
                    clear BK217
                    clear HB
                    have HO222 := n0_
                    have HO225 := n1_
                    have BK216 := n2_
                    have BK217 := n3_
                    have HB := n4_
                    clear n0_ n1_ n2_ n3_ n4_
                    clear hb ho12
                    refine hK.out _ _ ⟨(blk_cell BK216.out 0).trans rfl, (blk_cell BK216.out 1).trans rfl, (blk_cell BK216.out 2).trans rfl⟩ (fun hHeld => ?_)
                    clear hK K
                    refine norm_ (a' := ?_) ?_ ?_
                    rotate_left
                    ·show Act.put _ (some 25) _ = _
                     simp only [Act.put, List.setIfInBounds_toArray, List.set_cons_zero, List.set_cons_succ, i64_w, i32_w]
                     rfl
                    exact norm_ (by first | (simp only [putAll, Act.put, List.setIfInBounds_toArray, List.set_cons_zero, List.set_cons_succ]; done) | (simp only [putAll, Act.put, List.setIfInBounds_toArray, List.set_cons_zero, List.set_cons_succ]; rfl)) (hJ1_9 (v221, v224) _ ⟨hHeld, zR, zR, zK, zK, zB⟩)
                   ·skip
                    refine box_step ?hg (N := 5) ?hd (cs := #[.int .i64 0, .int .i64 0, .slice none 0 0]) (t := 32) ?hr ?_; (case hd => rfl); (case hg => rfl); (case hr => first | (go_simp; done) | (go_simp; rfl))
                    intro gb226 hg w11 hbox hb
                    have n0_ := Aside0.mk (Kd.R_below (by (with_reducible repeat (first | apply Kd.R_alloc | apply Kd.R_drewN | apply Kd.R_drew)); exact HO222.out) hb)
                    have n1_ := Aside0.mk (blk_below (g := gb216) (o := .cells #[.int .i64 a0_0, .int .i64 a0_1, .slice A0_2 l0_2.length c0_2] 32 (0, 0)) zK hb)
                    have n2_ := Aside0.mk (blk_below (g := gb217) (o := .cells #[.int .i64 0, .int .i64 0, .slice none 0 0] 32 (0, 0)) zK hb)
                    have n3_ := Aside0.mk (below_step zB hb)
                    have n4_ := Aside0.mk (hbox)
                    have n5_ := Aside0.mk (zG : w.heap.size ≤ gb226)
                    have n6_ := Aside0.mk (zG : w.heap.size ≤ gb226)
                    have n7_ := Aside0.mk ((by rw [hg]; exact Nat.ne_of_lt (blk_lt (g := gb216) (o := .cells #[.int .i64 a0_0, .int .i64 a0_1, .slice A0_2 l0_2.length c0_2] 32 (0, 0)) zK) : gb216 ≠ gb226))
                    have n8_ := Aside0.mk ((by rw [hg]; exact Nat.ne_of_gt (blk_lt (g := gb216) (o := .cells #[.int .i64 a0_0, .int .i64 a0_1, .slice A0_2 l0_2.length c0_2] 32 (0, 0)) zK) : gb226 ≠ gb216))
                    have n9_ := Aside0.mk ((by rw [hg]; exact Nat.ne_of_lt (blk_lt (g := gb217) (o := .cells #[.int .i64 0, .int .i64 0, .slice none 0 0] 32 (0, 0)) zK) : gb217 ≠ gb226))
                    have n10_ := Aside0.mk ((by rw [hg]; exact Nat.ne_of_gt (blk_lt (g := gb217) (o := .cells #[.int .i64 0, .int .i64 0, .slice none 0 0] 32 (0, 0)) zK) : gb226 ≠ gb217))
                    clear HO222
                    clear BK216
                    clear BK217
                    clear HB
                    have HO222 := n0_
                    have BK216 := n1_
                    have BK217 := n2_
                    have HB := n3_
                    have BK226 := n4_
                    have GW226 := n5_
                    have GE226 := n6_
                    have NB216_226 := n7_
                    have NB226_216 := n8_
                    have NB217_226 := n9_
                    have NB226_217 := n10_
                    clear n0_ n1_ n2_ n3_ n4_ n5_ n6_ n7_ n8_ n9_ n10_
                    clear hb hbox hg
                    refine hK.out _ _ ⟨(blk_cell BK216.out 0).trans rfl, (blk_cell BK216.out 1).trans rfl, (blk_cell BK216.out 2).trans rfl⟩ (fun hHeld => ?_)
                    clear hK K
                    refine norm_ (a' := ?_) ?_ ?_
                    rotate_left
                    ·show Act.put _ (some 5) _ = _
                     simp only [Act.put, List.setIfInBounds_toArray, List.set_cons_zero, List.set_cons_succ, i64_w, i32_w]
                     rfl
                    exact norm_ (by first | (simp only [putAll, Act.put, List.setIfInBounds_toArray, List.set_cons_zero, List.set_cons_succ]; done) | (simp only [putAll, Act.put, List.setIfInBounds_toArray, List.set_cons_zero, List.set_cons_succ]; rfl)) (hJ1_11 (v221, gb226) _ ⟨hHeld, zR, zK, zK, zK, GW226.out, GE226.out, NB216_226.out, NB226_216.out, NB217_226.out, NB226_217.out, zB⟩)
                 ·skip
                  rintro ⟨v224, gb226⟩ w12 ⟨hS_, h0_, h1_, h2_, h3_, h4_, h5_, h6_, h7_, h8_, h9_, h10_⟩
                  have n0_ : Aside0 (Kd.R (Kd.int .u8) 5 w12 w.heap.size (fun _ => True) v224 y223) := ⟨h0_⟩
                  have n1_ : Aside0 (w12.heap[gb216]? = some (.cells #[.int .i64 a0_0, .int .i64 a0_1, .slice A0_2 l0_2.length c0_2] 32 (0, 0))) := ⟨h1_⟩
                  have n2_ : Aside0 (w12.heap[gb217]? = some (.cells #[.int .i64 0, .int .i64 0, .slice none 0 0] 32 (0, 0))) := ⟨h2_⟩
                  have n3_ : Aside0 (w12.heap[gb226]? = some (.cells #[.int .i64 0, .int .i64 0, .slice none 0 0] 32 (0, 0))) := ⟨h3_⟩
                  have n4_ : Aside0 (w.heap.size ≤ gb226) := ⟨h4_⟩
                  have n5_ : Aside0 (w.heap.size ≤ gb226) := ⟨h5_⟩
                  have n6_ : Aside0 (gb216 ≠ gb226) := ⟨h6_⟩
                  have n7_ : Aside0 (gb226 ≠ gb216) := ⟨h7_⟩
                  have n8_ : Aside0 (gb217 ≠ gb226) := ⟨h8_⟩
                  have n9_ : Aside0 (gb226 ≠ gb217) := ⟨h9_⟩
                  have n10_ : Aside0 (Below w.heap.size w w12) := ⟨h10_⟩
                  clear BK216
                  clear BK217
                  clear HB
                  clear h0_ h1_ h2_ h3_ h4_ h5_ h6_ h7_ h8_ h9_ h10_
                  have HO225 := n0_
                  have BK216 := n1_
                  have BK217 := n2_
                  have BK226 := n3_
                  have GW226 := n4_
                  have GE226 := n5_
                  have NB216_226 := n6_
                  have NB226_216 := n7_
                  have NB217_226 := n8_
                  have NB226_217 := n9_
                  have HB := n10_
                  clear n0_ n1_ n2_ n3_ n4_ n5_ n6_ n7_ n8_ n9_ n10_
                  have hHeld : w12.cell? ⟨gb216, 0, none⟩ = some (.int .i64 a0_0) ∧ w12.cell? ⟨gb216, 1, none⟩ = some (.int .i64 a0_1) ∧ w12.cell? ⟨gb216, 2, none⟩ = some (.slice A0_2 l0_2.length c0_2) := hS_
                  refine norm_ (a' := ?_) ?_ ?_
                  rotate_left
                  ·simp only [putAll, Act.put, List.setIfInBounds_toArray, List.set_cons_zero, List.set_cons_succ]
                   rfl
                  refine two_ (i := 1) (j := 10) (Ni := some 17) (Nj := some 26) #[true, true, true, true, true, true, true, true, true, true, false, true, false, false, false] #[true, false, true, true, true, true, true, true, true, true, true, true, false, false, false] rfl rfl rfl rfl (two_of HT_.out (by kernel_rfl)) (by decide) (by decide) (fun K hK => ?_) (fun K hK => ?_)
                  ·skip
                   refine goes_ Try.func77 (by kernel_rfl) rfl #[.agg #[.int .i64 a0_0, .int .i64 a0_1, .slice A0_2 l0_2.length c0_2]] (by rfl) rfl rfl zM ?_
                   with_reducible refine (spec_l01Empty.calls a0_0 a0_1 _ _ l0_2 t218 t219 t220 _ ?side1 ?side2 A3.out).mono ?_
                   (case side1 => repeat (first | exact (Kd.C_below HR0_2.out HB.out) | (with_reducible refine Kd.C_alloc ?_ _) | (with_reducible refine Kd.C_drewN ?_ _) | (with_reducible refine Kd.C_drew ?_)))
                   (case side2 => exact HC0_2.out)
                   rintro e w13 ⟨v221, rfl, ho0, hb⟩
                   refine ⟨_, rfl, ?_⟩
                   have n0_ := Aside0.mk (Kd.R_below (by (with_reducible repeat (first | apply Kd.R_alloc | apply Kd.R_drewN | apply Kd.R_drew)); exact HO225.out) hb)
                   have n1_ := Aside0.mk (Kd.R_lower ho0 (below_size zB))
                   have n2_ := Aside0.mk (blk_below (g := gb216) (o := .cells #[.int .i64 a0_0, .int .i64 a0_1, .slice A0_2 l0_2.length c0_2] 32 (0, 0)) zK hb)
                   have n3_ := Aside0.mk (blk_below (g := gb217) (o := .cells #[.int .i64 0, .int .i64 0, .slice none 0 0] 32 (0, 0)) zK hb)
                   have n4_ := Aside0.mk (blk_below (g := gb226) (o := .cells #[.int .i64 0, .int .i64 0, .slice none 0 0] 32 (0, 0)) zK hb)
                   have n5_ := Aside0.mk (below_step zB hb)
                   clear HO225
                   clear BK216
                   clear BK217
                   clear BK226
                   clear HB
                   have HO225 := n0_
                   have HO222 := n1_
                   have BK216 := n2_
                   have BK217 := n3_
                   have BK226 := n4_
                   have HB := n5_
                   clear n0_ n1_ n2_ n3_ n4_ n5_
                   (try clear hb)
                   (try clear hb2)
                   (try clear hk)
                   (try clear hi)
                   (try clear ho0)
                   refine hK.out _ _ ⟨(blk_cell BK216.out 0).trans rfl, (blk_cell BK216.out 1).trans rfl, (blk_cell BK216.out 2).trans rfl⟩ (fun hHeld => ?_)
                   clear hK K
                   refine norm_ (a' := ?_) ?_ ?_
                   rotate_left
                   ·show Act.put _ (some 17) _ = _
                    simp only [Act.put, List.setIfInBounds_toArray, List.set_cons_zero, List.set_cons_succ, i64_w, i32_w]
                    rfl
                   exact norm_ (by first | (simp only [putAll, Act.put, List.setIfInBounds_toArray, List.set_cons_zero, List.set_cons_succ]; done) | (simp only [putAll, Act.put, List.setIfInBounds_toArray, List.set_cons_zero, List.set_cons_succ]; rfl)) (hJ1_9_11 (v221, v224, gb226) _ ⟨hHeld, zR, zR, zK, zK, zK, GW226.out, GE226.out, NB216_226.out, NB226_216.out, NB217_226.out, NB226_217.out, zB⟩)
                  ·skip
                   have hcv13 := own_string (P := Try.prog) Try.underlying112 Try.underlying5 Try.underlying9 (Kd.own_of_R HO225.out)
                   refine value_ (w1 := ?_) (v := ?_) (by rfl) rfl ?_ ?_
                   rotate_left 2
                   ·go_simp
                    constructor
                    ·rfl
                    ·rfl
                   clear hcv13
                   refine hK.out _ _ ⟨(blk_cell BK216.out 0).trans rfl, (blk_cell BK216.out 1).trans rfl, (blk_cell BK216.out 2).trans rfl⟩ (fun hHeld => ?_)
                   clear hK K
                   refine norm_ (a' := ?_) ?_ ?_
                   rotate_left
                   ·show Act.put _ (some 26) _ = _
                    simp only [Act.put, List.setIfInBounds_toArray, List.set_cons_zero, List.set_cons_succ, i64_w, i32_w]
                    rfl
                   exact norm_ (by first | (simp only [putAll, Act.put, List.setIfInBounds_toArray, List.set_cons_zero, List.set_cons_succ]; done) | (simp only [putAll, Act.put, List.setIfInBounds_toArray, List.set_cons_zero, List.set_cons_succ]; rfl)) (hJ9_10_11 (v224, gb226) _ ⟨hHeld, zR, zK, zK, zK, GW226.out, GE226.out, NB216_226.out, NB226_216.out, NB217_226.out, NB226_217.out, zB⟩)
                ·skip
                 rintro v224 w12 ⟨hS_, h0_, h1_, h2_, h3_⟩
                 have n0_ : Aside0 (Kd.R (Kd.int .u8) 5 w12 w.heap.size (fun _ => True) v224 y223) := ⟨h0_⟩
                 have n1_ : Aside0 (w12.heap[gb216]? = some (.cells #[.int .i64 a0_0, .int .i64 a0_1, .slice A0_2 l0_2.length c0_2] 32 (0, 0))) := ⟨h1_⟩
                 have n2_ : Aside0 (w12.heap[gb217]? = some (.cells #[.int .i64 0, .int .i64 0, .slice none 0 0] 32 (0, 0))) := ⟨h2_⟩
                 have n3_ : Aside0 (Below w.heap.size w w12) := ⟨h3_⟩
                 clear BK216
                 clear BK217
                 clear HB
                 clear h0_ h1_ h2_ h3_
                 have HO225 := n0_
                 have BK216 := n1_
                 have BK217 := n2_
                 have HB := n3_
                 clear n0_ n1_ n2_ n3_
                 have hHeld : w12.cell? ⟨gb216, 0, none⟩ = some (.int .i64 a0_0) ∧ w12.cell? ⟨gb216, 1, none⟩ = some (.int .i64 a0_1) ∧ w12.cell? ⟨gb216, 2, none⟩ = some (.slice A0_2 l0_2.length c0_2) := hS_
                 refine norm_ (a' := ?_) ?_ ?_
                 rotate_left
                 ·simp only [putAll, Act.put, List.setIfInBounds_toArray, List.set_cons_zero, List.set_cons_succ]
                  rfl
                 refine two_ (i := 1) (j := 11) (Ni := some 17) (Nj := some 5) #[true, true, true, true, true, true, true, true, true, true, true, false, false, false, false] #[true, false, true, true, true, true, true, true, true, true, true, true, false, false, false] rfl rfl rfl rfl (two_of HT_.out (by kernel_rfl)) (by decide) (by decide) (fun K hK => ?_) (fun K hK => ?_)
                 ·skip
                  refine goes_ Try.func77 (by kernel_rfl) rfl #[.agg #[.int .i64 a0_0, .int .i64 a0_1, .slice A0_2 l0_2.length c0_2]] (by rfl) rfl rfl zM ?_
                  with_reducible refine (spec_l01Empty.calls a0_0 a0_1 _ _ l0_2 t218 t219 t220 _ ?side1 ?side2 A3.out).mono ?_
                  (case side1 => repeat (first | exact (Kd.C_below HR0_2.out HB.out) | (with_reducible refine Kd.C_alloc ?_ _) | (with_reducible refine Kd.C_drewN ?_ _) | (with_reducible refine Kd.C_drew ?_)))
                  (case side2 => exact HC0_2.out)
                  rintro e w13 ⟨v221, rfl, ho0, hb⟩
                  refine ⟨_, rfl, ?_⟩
                  have n0_ := Aside0.mk (Kd.R_below (by (with_reducible repeat (first | apply Kd.R_alloc | apply Kd.R_drewN | apply Kd.R_drew)); exact HO225.out) hb)
                  have n1_ := Aside0.mk (Kd.R_lower ho0 (below_size zB))
                  have n2_ := Aside0.mk (blk_below (g := gb216) (o := .cells #[.int .i64 a0_0, .int .i64 a0_1, .slice A0_2 l0_2.length c0_2] 32 (0, 0)) zK hb)
                  have n3_ := Aside0.mk (blk_below (g := gb217) (o := .cells #[.int .i64 0, .int .i64 0, .slice none 0 0] 32 (0, 0)) zK hb)
                  have n4_ := Aside0.mk (below_step zB hb)
                  clear HO225
                  clear BK216
                  clear BK217
                  clear HB
                  have HO225 := n0_
                  have HO222 := n1_
                  have BK216 := n2_
                  have BK217 := n3_
                  have HB := n4_
                  clear n0_ n1_ n2_ n3_ n4_
                  (try clear hb)
                  (try clear hb2)
                  (try clear hk)
                  (try clear hi)
                  (try clear ho0)
                  refine hK.out _ _ ⟨(blk_cell BK216.out 0).trans rfl, (blk_cell BK216.out 1).trans rfl, (blk_cell BK216.out 2).trans rfl⟩ (fun hHeld => ?_)
                  clear hK K
                  refine norm_ (a' := ?_) ?_ ?_
                  rotate_left
                  ·show Act.put _ (some 17) _ = _
                   simp only [Act.put, List.setIfInBounds_toArray, List.set_cons_zero, List.set_cons_succ, i64_w, i32_w]
                   rfl
                  exact norm_ (by first | (simp only [putAll, Act.put, List.setIfInBounds_toArray, List.set_cons_zero, List.set_cons_succ]; done) | (simp only [putAll, Act.put, List.setIfInBounds_toArray, List.set_cons_zero, List.set_cons_succ]; rfl)) (hJ1_9_10 (v221, v224) _ ⟨hHeld, zR, zR, zK, zK, zB⟩)
                 ·skip
                  refine box_step ?hg (N := 5) ?hd (cs := #[.int .i64 0, .int .i64 0, .slice none 0 0]) (t := 32) ?hr ?_; (case hd => rfl); (case hg => rfl); (case hr => first | (go_simp; done) | (go_simp; rfl))
                  intro gb226 hg w13 hbox hb
                  have n0_ := Aside0.mk (Kd.R_below (by (with_reducible repeat (first | apply Kd.R_alloc | apply Kd.R_drewN | apply Kd.R_drew)); exact HO225.out) hb)
                  have n1_ := Aside0.mk (blk_below (g := gb216) (o := .cells #[.int .i64 a0_0, .int .i64 a0_1, .slice A0_2 l0_2.length c0_2] 32 (0, 0)) zK hb)
                  have n2_ := Aside0.mk (blk_below (g := gb217) (o := .cells #[.int .i64 0, .int .i64 0, .slice none 0 0] 32 (0, 0)) zK hb)
                  have n3_ := Aside0.mk (below_step zB hb)
                  have n4_ := Aside0.mk (hbox)
                  have n5_ := Aside0.mk (zG : w.heap.size ≤ gb226)
                  have n6_ := Aside0.mk (zG : w.heap.size ≤ gb226)
                  have n7_ := Aside0.mk ((by rw [hg]; exact Nat.ne_of_lt (blk_lt (g := gb216) (o := .cells #[.int .i64 a0_0, .int .i64 a0_1, .slice A0_2 l0_2.length c0_2] 32 (0, 0)) zK) : gb216 ≠ gb226))
                  have n8_ := Aside0.mk ((by rw [hg]; exact Nat.ne_of_gt (blk_lt (g := gb216) (o := .cells #[.int .i64 a0_0, .int .i64 a0_1, .slice A0_2 l0_2.length c0_2] 32 (0, 0)) zK) : gb226 ≠ gb216))
                  have n9_ := Aside0.mk ((by rw [hg]; exact Nat.ne_of_lt (blk_lt (g := gb217) (o := .cells #[.int .i64 0, .int .i64 0, .slice none 0 0] 32 (0, 0)) zK) : gb217 ≠ gb226))
                  have n10_ := Aside0.mk ((by rw [hg]; exact Nat.ne_of_gt (blk_lt (g := gb217) (o := .cells #[.int .i64 0, .int .i64 0, .slice none 0 0] 32 (0, 0)) zK) : gb226 ≠ gb217))
                  clear HO225
                  clear BK216
                  clear BK217
                  clear HB
                  have HO225 := n0_
                  have BK216 := n1_
                  have BK217 := n2_
                  have HB := n3_
                  have BK226 := n4_
                  have GW226 := n5_
                  have GE226 := n6_
                  have NB216_226 := n7_
                  have NB226_216 := n8_
                  have NB217_226 := n9_
                  have NB226_217 := n10_
                  clear n0_ n1_ n2_ n3_ n4_ n5_ n6_ n7_ n8_ n9_ n10_
                  clear hb hbox hg
                  refine hK.out _ _ ⟨(blk_cell BK216.out 0).trans rfl, (blk_cell BK216.out 1).trans rfl, (blk_cell BK216.out 2).trans rfl⟩ (fun hHeld => ?_)
                  clear hK K
                  refine norm_ (a' := ?_) ?_ ?_
                  rotate_left
                  ·show Act.put _ (some 5) _ = _
                   simp only [Act.put, List.setIfInBounds_toArray, List.set_cons_zero, List.set_cons_succ, i64_w, i32_w]
                   rfl
                  exact norm_ (by first | (simp only [putAll, Act.put, List.setIfInBounds_toArray, List.set_cons_zero, List.set_cons_succ]; done) | (simp only [putAll, Act.put, List.setIfInBounds_toArray, List.set_cons_zero, List.set_cons_succ]; rfl)) (hJ9_10_11 (v224, gb226) _ ⟨hHeld, zR, zK, zK, zK, GW226.out, GE226.out, NB216_226.out, NB226_216.out, NB217_226.out, NB226_217.out, zB⟩)
               ·skip
                rintro ⟨v221, gb226⟩ w11 ⟨hS_, h0_, h1_, h2_, h3_, h4_, h5_, h6_, h7_, h8_, h9_, h10_⟩
                have n0_ : Aside0 (Kd.R k89 89 w11 w.heap.size (fun _ => True) v221 t220) := ⟨h0_⟩
                have n1_ : Aside0 (w11.heap[gb216]? = some (.cells #[.int .i64 a0_0, .int .i64 a0_1, .slice A0_2 l0_2.length c0_2] 32 (0, 0))) := ⟨h1_⟩
                have n2_ : Aside0 (w11.heap[gb217]? = some (.cells #[.int .i64 0, .int .i64 0, .slice none 0 0] 32 (0, 0))) := ⟨h2_⟩
                have n3_ : Aside0 (w11.heap[gb226]? = some (.cells #[.int .i64 0, .int .i64 0, .slice none 0 0] 32 (0, 0))) := ⟨h3_⟩
                have n4_ : Aside0 (w.heap.size ≤ gb226) := ⟨h4_⟩
                have n5_ : Aside0 (w.heap.size ≤ gb226) := ⟨h5_⟩
                have n6_ : Aside0 (gb216 ≠ gb226) := ⟨h6_⟩
                have n7_ : Aside0 (gb226 ≠ gb216) := ⟨h7_⟩
                have n8_ : Aside0 (gb217 ≠ gb226) := ⟨h8_⟩
                have n9_ : Aside0 (gb226 ≠ gb217) := ⟨h9_⟩
                have n10_ : Aside0 (Below w.heap.size w w11) := ⟨h10_⟩
                clear BK216
                clear BK217
                clear HB
                clear h0_ h1_ h2_ h3_ h4_ h5_ h6_ h7_ h8_ h9_ h10_
                have HO222 := n0_
                have BK216 := n1_
                have BK217 := n2_
                have BK226 := n3_
                have GW226 := n4_
                have GE226 := n5_
                have NB216_226 := n6_
                have NB226_216 := n7_
                have NB217_226 := n8_
                have NB226_217 := n9_
                have HB := n10_
                clear n0_ n1_ n2_ n3_ n4_ n5_ n6_ n7_ n8_ n9_ n10_
                have hHeld : w11.cell? ⟨gb216, 0, none⟩ = some (.int .i64 a0_0) ∧ w11.cell? ⟨gb216, 1, none⟩ = some (.int .i64 a0_1) ∧ w11.cell? ⟨gb216, 2, none⟩ = some (.slice A0_2 l0_2.length c0_2) := hS_
                refine norm_ (a' := ?_) ?_ ?_
                rotate_left
                ·simp only [putAll, Act.put, List.setIfInBounds_toArray, List.set_cons_zero, List.set_cons_succ]
                 rfl
                refine two_ (i := 9) (j := 12) (Ni := some 25) (Nj := none) #[true, true, true, true, true, true, true, true, true, true, false, true, false, false, false] #[true, true, true, true, true, true, true, true, true, false, false, true, true, false, false] rfl rfl rfl rfl (two_of HT_.out (by kernel_rfl)) (by decide) (by decide) (fun K hK => ?_) (fun K hK => ?_)
                ·skip
                 refine Kd.R_lit_step (Kd.int .u8) _ 5 ?hg (N := 25) ?hd (xs := ([(wrap64 ((wrap64 (48 + (ji4))) - 1)) % 256] : List Int)) (inner := [.int .u8 ((wrap64 ((wrap64 (48 + (ji4))) - 1)) % 256)]) (ok := fun _ => True) (okp := fun _ => True) ?hr ?hp (fun _ hk => hk) trivial (Below.refl _ _) (Nat.le_refl _) (by simp) ?_; (case hd => rfl); (case hg => rfl); (case hr => first | (go_simp; done) | (go_simp; rfl)); (case hp => exact (Reps.one (show Kd.M (Kd.int .u8) _ _ _ ((wrap64 ((wrap64 (48 + (ji4))) - 1)) % 256) [.int .u8 ((wrap64 ((wrap64 (48 + (ji4))) - 1)) % 256)] from rfl) (Reps.none _ _)))
                 intro v224 w12 ho13 hb hg_ hnew_
                 clear hg_ hnew_
                 (first | rw [← Ny223.out] at ho13 | (simp only [Int.reduceToNat] at ho13; rw [← Ny223.out] at ho13))
                 have n0_ := Aside0.mk (Kd.R_below (by (with_reducible repeat (first | apply Kd.R_alloc | apply Kd.R_drewN | apply Kd.R_drew)); exact HO222.out) hb)
                 have n1_ := Aside0.mk (Kd.R_lower ho13 (below_size zB))
                 have n2_ := Aside0.mk (blk_below (g := gb216) (o := .cells #[.int .i64 a0_0, .int .i64 a0_1, .slice A0_2 l0_2.length c0_2] 32 (0, 0)) zK hb)
                 have n3_ := Aside0.mk (blk_below (g := gb217) (o := .cells #[.int .i64 0, .int .i64 0, .slice none 0 0] 32 (0, 0)) zK hb)
                 have n4_ := Aside0.mk (blk_below (g := gb226) (o := .cells #[.int .i64 0, .int .i64 0, .slice none 0 0] 32 (0, 0)) zK hb)
                 have n5_ := Aside0.mk (below_step zB hb)
                 clear HO222
                 clear BK216
                 clear BK217
                 clear BK226
                 clear HB
                 have HO222 := n0_
                 have HO225 := n1_
                 have BK216 := n2_
                 have BK217 := n3_
                 have BK226 := n4_
                 have HB := n5_
                 clear n0_ n1_ n2_ n3_ n4_ n5_
                 clear hb ho13
                 refine hK.out _ _ ⟨(blk_cell BK216.out 0).trans rfl, (blk_cell BK216.out 1).trans rfl, (blk_cell BK216.out 2).trans rfl⟩ (fun hHeld => ?_)
                 clear hK K
                 refine norm_ (a' := ?_) ?_ ?_
                 rotate_left
                 ·show Act.put _ (some 25) _ = _
                  simp only [Act.put, List.setIfInBounds_toArray, List.set_cons_zero, List.set_cons_succ, i64_w, i32_w]
                  rfl
                 exact norm_ (by first | (simp only [putAll, Act.put, List.setIfInBounds_toArray, List.set_cons_zero, List.set_cons_succ]; done) | (simp only [putAll, Act.put, List.setIfInBounds_toArray, List.set_cons_zero, List.set_cons_succ]; rfl)) (hJ1_9_11 (v221, v224, gb226) _ ⟨hHeld, zR, zR, zK, zK, zK, GW226.out, GE226.out, NB216_226.out, NB226_216.out, NB217_226.out, NB226_217.out, zB⟩)
                ·skip
                 have hs12 : w11.cell? ⟨gb226, 0, none⟩ = some (.int .i64 0) := (blk_cell BK226.out 0).trans rfl
                 have hfs12 := blk_frozen BK226.out 0
                 have hns12_0 := NB216_226.out
                 have hns12_1 := NB217_226.out
                 have hms12_0 := NB226_216.out
                 have hms12_1 := NB226_217.out
                 have hs13 : w11.cell? ⟨gb226, 1, none⟩ = some (.int .i64 0) := (blk_cell BK226.out 1).trans rfl
                 have hfs13 := blk_frozen BK226.out 1
                 have hns13_0 := NB216_226.out
                 have hns13_1 := NB217_226.out
                 have hms13_0 := NB226_216.out
                 have hms13_1 := NB226_217.out
                 have hs15 : w11.cell? ⟨gb226, 2, none⟩ = some (.slice none 0 0) := (blk_cell BK226.out 2).trans rfl
                 have hfs15 := blk_frozen BK226.out 2
                 have hns15_0 := NB216_226.out
                 have hns15_1 := NB217_226.out
                 have hms15_0 := NB226_216.out
                 have hms15_1 := NB226_217.out
                 obtain ⟨ab_, cb_, eb_⟩ := Kd.R_slice HO222.out
                 subst eb_
                 refine skip_ (w1 := ?_) (by rfl) rfl ?_ ?_
                 rotate_left
                 ·go_simp
                  rfl
                 refine hK.out _ _ ⟨((cell_far (p := ⟨gb226, _, none⟩) NB216_226.out _).trans (((cell_far (p := ⟨gb226, _, none⟩) NB216_226.out _).trans (((cell_far (p := ⟨gb226, _, none⟩) NB216_226.out _).trans (hHeld.1)))))), ((cell_far (p := ⟨gb226, _, none⟩) NB216_226.out _).trans (((cell_far (p := ⟨gb226, _, none⟩) NB216_226.out _).trans (((cell_far (p := ⟨gb226, _, none⟩) NB216_226.out _).trans (hHeld.2.1)))))), ((cell_far (p := ⟨gb226, _, none⟩) NB216_226.out _).trans (((cell_far (p := ⟨gb226, _, none⟩) NB216_226.out _).trans (((cell_far (p := ⟨gb226, _, none⟩) NB216_226.out _).trans (hHeld.2.2))))))⟩ (fun hHeld => ?_)
                 clear hK K
                 exact norm_ (by first | (simp only [putAll, Act.put, List.setIfInBounds_toArray, List.set_cons_zero, List.set_cons_succ]; done) | (simp only [putAll, Act.put, List.setIfInBounds_toArray, List.set_cons_zero, List.set_cons_succ]; rfl)) (hJ1_11_12 ((.slice ab_ t220.length cb_), gb226) _ ⟨hHeld, (by (with_reducible repeat (first | apply Kd.R_alloc | apply Kd.R_drewN | apply Kd.R_drew)); exact Kd.R_mono (Kd.R_far (p := ⟨gb226, 2, none⟩) (Kd.R_far (p := ⟨gb226, 1, none⟩) (Kd.R_far (p := ⟨gb226, 0, none⟩) (Kd.R_types HO222.out BK226.out (by decide)) (fun _ hk => hk.2) (.int .i64 t218)) (fun _ hk => hk.2) (.int .i64 t219)) (fun _ hk => hk.2) ((.slice ab_ t220.length cb_))) (fun _ hk => trivial)), (by (with_reducible repeat (first | refine blk_drewN ?_ _ | refine blk_drew ?_ | refine blk_alloc ?_ _)); refine blk_far ?_ NB216_226.out _; (with_reducible repeat (first | refine blk_drewN ?_ _ | refine blk_drew ?_ | refine blk_alloc ?_ _)); refine blk_far ?_ NB216_226.out _; (with_reducible repeat (first | refine blk_drewN ?_ _ | refine blk_drew ?_ | refine blk_alloc ?_ _)); refine blk_far ?_ NB216_226.out _; exact zK), (by (with_reducible repeat (first | refine blk_drewN ?_ _ | refine blk_drew ?_ | refine blk_alloc ?_ _)); refine blk_far ?_ NB217_226.out _; (with_reducible repeat (first | refine blk_drewN ?_ _ | refine blk_drew ?_ | refine blk_alloc ?_ _)); refine blk_far ?_ NB217_226.out _; (with_reducible repeat (first | refine blk_drewN ?_ _ | refine blk_drew ?_ | refine blk_alloc ?_ _)); refine blk_far ?_ NB217_226.out _; exact zK), (by (with_reducible repeat (first | refine blk_drewN ?_ _ | refine blk_drew ?_ | refine blk_alloc ?_ _)); refine blk_put (cs := #[.int .i64 t218, .int .i64 t219, .slice none 0 0]) ?_ 2 _ rfl; (with_reducible repeat (first | refine blk_drewN ?_ _ | refine blk_drew ?_ | refine blk_alloc ?_ _)); refine blk_put (cs := #[.int .i64 t218, .int .i64 0, .slice none 0 0]) ?_ 1 _ rfl; (with_reducible repeat (first | refine blk_drewN ?_ _ | refine blk_drew ?_ | refine blk_alloc ?_ _)); refine blk_put (cs := #[.int .i64 0, .int .i64 0, .slice none 0 0]) ?_ 0 _ rfl; exact zK), GW226.out, GE226.out, NB216_226.out, NB226_216.out, NB217_226.out, NB226_217.out, zB⟩)
              ·skip
               rintro ⟨v221, v224⟩ w12 ⟨hS_, h0_, h1_, h2_, h3_, h4_⟩
               have n0_ : Aside0 (Kd.R k89 89 w12 w.heap.size (fun _ => True) v221 t220) := ⟨h0_⟩
               have n1_ : Aside0 (Kd.R (Kd.int .u8) 5 w12 w.heap.size (fun _ => True) v224 y223) := ⟨h1_⟩
               have n2_ : Aside0 (w12.heap[gb216]? = some (.cells #[.int .i64 a0_0, .int .i64 a0_1, .slice A0_2 l0_2.length c0_2] 32 (0, 0))) := ⟨h2_⟩
               have n3_ : Aside0 (w12.heap[gb217]? = some (.cells #[.int .i64 0, .int .i64 0, .slice none 0 0] 32 (0, 0))) := ⟨h3_⟩
               have n4_ : Aside0 (Below w.heap.size w w12) := ⟨h4_⟩
               clear BK216
               clear BK217
               clear HB
               clear h0_ h1_ h2_ h3_ h4_
               have HO222 := n0_
               have HO225 := n1_
               have BK216 := n2_
               have BK217 := n3_
               have HB := n4_
               clear n0_ n1_ n2_ n3_ n4_
               have hHeld : w12.cell? ⟨gb216, 0, none⟩ = some (.int .i64 a0_0) ∧ w12.cell? ⟨gb216, 1, none⟩ = some (.int .i64 a0_1) ∧ w12.cell? ⟨gb216, 2, none⟩ = some (.slice A0_2 l0_2.length c0_2) := hS_
               refine norm_ (a' := ?_) ?_ ?_
               rotate_left
               ·simp only [putAll, Act.put, List.setIfInBounds_toArray, List.set_cons_zero, List.set_cons_succ]
                rfl
               refine two_ (i := 10) (j := 11) (Ni := some 26) (Nj := some 5) #[true, true, true, true, true, true, true, true, true, true, true, false, false, false, false] #[true, true, true, true, true, true, true, true, true, true, false, true, false, false, false] rfl rfl rfl rfl (two_of HT_.out (by kernel_rfl)) (by decide) (by decide) (fun K hK => ?_) (fun K hK => ?_)
               ·skip
                have hcv13 := own_string (P := Try.prog) Try.underlying112 Try.underlying5 Try.underlying9 (Kd.own_of_R HO225.out)
                refine value_ (w1 := ?_) (v := ?_) (by rfl) rfl ?_ ?_
                rotate_left 2
                ·go_simp
                 constructor
                 ·rfl
                 ·rfl
                clear hcv13
                refine hK.out _ _ ⟨(blk_cell BK216.out 0).trans rfl, (blk_cell BK216.out 1).trans rfl, (blk_cell BK216.out 2).trans rfl⟩ (fun hHeld => ?_)
                clear hK K
                refine norm_ (a' := ?_) ?_ ?_
                rotate_left
                ·show Act.put _ (some 26) _ = _
                 simp only [Act.put, List.setIfInBounds_toArray, List.set_cons_zero, List.set_cons_succ, i64_w, i32_w]
                 rfl
                exact norm_ (by first | (simp only [putAll, Act.put, List.setIfInBounds_toArray, List.set_cons_zero, List.set_cons_succ]; done) | (simp only [putAll, Act.put, List.setIfInBounds_toArray, List.set_cons_zero, List.set_cons_succ]; rfl)) (hJ1_9_10 (v221, v224) _ ⟨hHeld, zR, zR, zK, zK, zB⟩)
               ·skip
                refine box_step ?hg (N := 5) ?hd (cs := #[.int .i64 0, .int .i64 0, .slice none 0 0]) (t := 32) ?hr ?_; (case hd => rfl); (case hg => rfl); (case hr => first | (go_simp; done) | (go_simp; rfl))
                intro gb226 hg w13 hbox hb
                have n0_ := Aside0.mk (Kd.R_below (by (with_reducible repeat (first | apply Kd.R_alloc | apply Kd.R_drewN | apply Kd.R_drew)); exact HO222.out) hb)
                have n1_ := Aside0.mk (Kd.R_below (by (with_reducible repeat (first | apply Kd.R_alloc | apply Kd.R_drewN | apply Kd.R_drew)); exact HO225.out) hb)
                have n2_ := Aside0.mk (blk_below (g := gb216) (o := .cells #[.int .i64 a0_0, .int .i64 a0_1, .slice A0_2 l0_2.length c0_2] 32 (0, 0)) zK hb)
                have n3_ := Aside0.mk (blk_below (g := gb217) (o := .cells #[.int .i64 0, .int .i64 0, .slice none 0 0] 32 (0, 0)) zK hb)
                have n4_ := Aside0.mk (below_step zB hb)
                have n5_ := Aside0.mk (hbox)
                have n6_ := Aside0.mk (zG : w.heap.size ≤ gb226)
                have n7_ := Aside0.mk (zG : w.heap.size ≤ gb226)
                have n8_ := Aside0.mk ((by rw [hg]; exact Nat.ne_of_lt (blk_lt (g := gb216) (o := .cells #[.int .i64 a0_0, .int .i64 a0_1, .slice A0_2 l0_2.length c0_2] 32 (0, 0)) zK) : gb216 ≠ gb226))
                have n9_ := Aside0.mk ((by rw [hg]; exact Nat.ne_of_gt (blk_lt (g := gb216) (o := .cells #[.int .i64 a0_0, .int .i64 a0_1, .slice A0_2 l0_2.length c0_2] 32 (0, 0)) zK) : gb226 ≠ gb216))
                have n10_ := Aside0.mk ((by rw [hg]; exact Nat.ne_of_lt (blk_lt (g := gb217) (o := .cells #[.int .i64 0, .int .i64 0, .slice none 0 0] 32 (0, 0)) zK) : gb217 ≠ gb226))
                have n11_ := Aside0.mk ((by rw [hg]; exact Nat.ne_of_gt (blk_lt (g := gb217) (o := .cells #[.int .i64 0, .int .i64 0, .slice none 0 0] 32 (0, 0)) zK) : gb226 ≠ gb217))
                clear HO222
                clear HO225
                clear BK216
                clear BK217
                clear HB
                have HO222 := n0_
                have HO225 := n1_
                have BK216 := n2_
                have BK217 := n3_
                have HB := n4_
                have BK226 := n5_
                have GW226 := n6_
                have GE226 := n7_
                have NB216_226 := n8_
                have NB226_216 := n9_
                have NB217_226 := n10_
                have NB226_217 := n11_
                clear n0_ n1_ n2_ n3_ n4_ n5_ n6_ n7_ n8_ n9_ n10_ n11_
                clear hb hbox hg
                refine hK.out _ _ ⟨(blk_cell BK216.out 0).trans rfl, (blk_cell BK216.out 1).trans rfl, (blk_cell BK216.out 2).trans rfl⟩ (fun hHeld => ?_)
                clear hK K
                refine norm_ (a' := ?_) ?_ ?_
                rotate_left
                ·show Act.put _ (some 5) _ = _
                 simp only [Act.put, List.setIfInBounds_toArray, List.set_cons_zero, List.set_cons_succ, i64_w, i32_w]
                 rfl
                exact norm_ (by first | (simp only [putAll, Act.put, List.setIfInBounds_toArray, List.set_cons_zero, List.set_cons_succ]; done) | (simp only [putAll, Act.put, List.setIfInBounds_toArray, List.set_cons_zero, List.set_cons_succ]; rfl)) (hJ1_9_11 (v221, v224, gb226) _ ⟨hHeld, zR, zR, zK, zK, zK, GW226.out, GE226.out, NB216_226.out, NB226_216.out, NB217_226.out, NB226_217.out, zB⟩)
             ·skip
              rintro ⟨v224, gb226⟩ w13 ⟨hS_, h0_, h1_, h2_, h3_, h4_, h5_, h6_, h7_, h8_, h9_, h10_⟩
              have n0_ : Aside0 (Kd.R (Kd.int .u8) 5 w13 w.heap.size (fun _ => True) v224 y223) := ⟨h0_⟩
              have n1_ : Aside0 (w13.heap[gb216]? = some (.cells #[.int .i64 a0_0, .int .i64 a0_1, .slice A0_2 l0_2.length c0_2] 32 (0, 0))) := ⟨h1_⟩
              have n2_ : Aside0 (w13.heap[gb217]? = some (.cells #[.int .i64 0, .int .i64 0, .slice none 0 0] 32 (0, 0))) := ⟨h2_⟩
              have n3_ : Aside0 (w13.heap[gb226]? = some (.cells #[.int .i64 0, .int .i64 0, .slice none 0 0] 32 (0, 0))) := ⟨h3_⟩
              have n4_ : Aside0 (w.heap.size ≤ gb226) := ⟨h4_⟩
              have n5_ : Aside0 (w.heap.size ≤ gb226) := ⟨h5_⟩
              have n6_ : Aside0 (gb216 ≠ gb226) := ⟨h6_⟩
              have n7_ : Aside0 (gb226 ≠ gb216) := ⟨h7_⟩
              have n8_ : Aside0 (gb217 ≠ gb226) := ⟨h8_⟩
              have n9_ : Aside0 (gb226 ≠ gb217) := ⟨h9_⟩
              have n10_ : Aside0 (Below w.heap.size w w13) := ⟨h10_⟩
              clear BK216
              clear BK217
              clear HB
              clear h0_ h1_ h2_ h3_ h4_ h5_ h6_ h7_ h8_ h9_ h10_
              have HO225 := n0_
              have BK216 := n1_
              have BK217 := n2_
              have BK226 := n3_
              have GW226 := n4_
              have GE226 := n5_
              have NB216_226 := n6_
              have NB226_216 := n7_
              have NB217_226 := n8_
              have NB226_217 := n9_
              have HB := n10_
              clear n0_ n1_ n2_ n3_ n4_ n5_ n6_ n7_ n8_ n9_ n10_
              have hHeld : w13.cell? ⟨gb216, 0, none⟩ = some (.int .i64 a0_0) ∧ w13.cell? ⟨gb216, 1, none⟩ = some (.int .i64 a0_1) ∧ w13.cell? ⟨gb216, 2, none⟩ = some (.slice A0_2 l0_2.length c0_2) := hS_
              refine norm_ (a' := ?_) ?_ ?_
              rotate_left
              ·simp only [putAll, Act.put, List.setIfInBounds_toArray, List.set_cons_zero, List.set_cons_succ]
               rfl
              refine one_ (i := 1) (N := some 17) #[true, true, true, true, true, true, true, true, true, true, true, true, false, false, false] rfl rfl (one_of HT_.out (by kernel_rfl)) (by decide) (fun K hK => ?_)
              refine goes_ Try.func77 (by kernel_rfl) rfl #[.agg #[.int .i64 a0_0, .int .i64 a0_1, .slice A0_2 l0_2.length c0_2]] (by rfl) rfl rfl zM ?_
              with_reducible refine (spec_l01Empty.calls a0_0 a0_1 _ _ l0_2 t218 t219 t220 _ ?side1 ?side2 A3.out).mono ?_
              (case side1 => repeat (first | exact (Kd.C_below HR0_2.out HB.out) | (with_reducible refine Kd.C_alloc ?_ _) | (with_reducible refine Kd.C_drewN ?_ _) | (with_reducible refine Kd.C_drew ?_)))
              (case side2 => exact HC0_2.out)
              rintro e w14 ⟨v221, rfl, ho0, hb⟩
              refine ⟨_, rfl, ?_⟩
              have n0_ := Aside0.mk (Kd.R_below (by (with_reducible repeat (first | apply Kd.R_alloc | apply Kd.R_drewN | apply Kd.R_drew)); exact HO225.out) hb)
              have n1_ := Aside0.mk (Kd.R_lower ho0 (below_size zB))
              have n2_ := Aside0.mk (blk_below (g := gb216) (o := .cells #[.int .i64 a0_0, .int .i64 a0_1, .slice A0_2 l0_2.length c0_2] 32 (0, 0)) zK hb)
              have n3_ := Aside0.mk (blk_below (g := gb217) (o := .cells #[.int .i64 0, .int .i64 0, .slice none 0 0] 32 (0, 0)) zK hb)
              have n4_ := Aside0.mk (blk_below (g := gb226) (o := .cells #[.int .i64 0, .int .i64 0, .slice none 0 0] 32 (0, 0)) zK hb)
              have n5_ := Aside0.mk (below_step zB hb)
              clear HO225
              clear BK216
              clear BK217
              clear BK226
              clear HB
              have HO225 := n0_
              have HO222 := n1_
              have BK216 := n2_
              have BK217 := n3_
              have BK226 := n4_
              have HB := n5_
              clear n0_ n1_ n2_ n3_ n4_ n5_
              (try clear hb)
              (try clear hb2)
              (try clear hk)
              (try clear hi)
              (try clear ho0)
              refine hK.out _ _ ⟨(blk_cell BK216.out 0).trans rfl, (blk_cell BK216.out 1).trans rfl, (blk_cell BK216.out 2).trans rfl⟩ (fun hHeld => ?_)
              clear hK K
              refine norm_ (a' := ?_) ?_ ?_
              rotate_left
              ·show Act.put _ (some 17) _ = _
               simp only [Act.put, List.setIfInBounds_toArray, List.set_cons_zero, List.set_cons_succ, i64_w, i32_w]
               rfl
              exact norm_ (by first | (simp only [putAll, Act.put, List.setIfInBounds_toArray, List.set_cons_zero, List.set_cons_succ]; done) | (simp only [putAll, Act.put, List.setIfInBounds_toArray, List.set_cons_zero, List.set_cons_succ]; rfl)) (hJ1_9_10_11 (v221, v224, gb226) _ ⟨hHeld, zR, zR, zK, zK, zK, GW226.out, GE226.out, NB216_226.out, NB226_216.out, NB217_226.out, NB226_217.out, zB⟩)
            ·skip
             rintro ⟨v221, gb226⟩ w15 ⟨hS_, h0_, h1_, h2_, h3_, h4_, h5_, h6_, h7_, h8_, h9_, h10_⟩
             have n0_ : Aside0 (Kd.R k89 89 w15 w.heap.size (fun _ => True) v221 t220) := ⟨h0_⟩
             have n1_ : Aside0 (w15.heap[gb216]? = some (.cells #[.int .i64 a0_0, .int .i64 a0_1, .slice A0_2 l0_2.length c0_2] 32 (0, 0))) := ⟨h1_⟩
             have n2_ : Aside0 (w15.heap[gb217]? = some (.cells #[.int .i64 0, .int .i64 0, .slice none 0 0] 32 (0, 0))) := ⟨h2_⟩
             have n3_ : Aside0 (w15.heap[gb226]? = some (.cells #[.int .i64 t218, .int .i64 t219, v221] 32 (0, 0))) := ⟨h3_⟩
             have n4_ : Aside0 (w.heap.size ≤ gb226) := ⟨h4_⟩
             have n5_ : Aside0 (w.heap.size ≤ gb226) := ⟨h5_⟩
             have n6_ : Aside0 (gb216 ≠ gb226) := ⟨h6_⟩
             have n7_ : Aside0 (gb226 ≠ gb216) := ⟨h7_⟩
             have n8_ : Aside0 (gb217 ≠ gb226) := ⟨h8_⟩
             have n9_ : Aside0 (gb226 ≠ gb217) := ⟨h9_⟩
             have n10_ : Aside0 (Below w.heap.size w w15) := ⟨h10_⟩
             clear BK216
             clear BK217
             clear HB
             clear h0_ h1_ h2_ h3_ h4_ h5_ h6_ h7_ h8_ h9_ h10_
             have HO222 := n0_
             have BK216 := n1_
             have BK217 := n2_
             have BK226 := n3_
             have GW226 := n4_
             have GE226 := n5_
             have NB216_226 := n6_
             have NB226_216 := n7_
             have NB217_226 := n8_
             have NB226_217 := n9_
             have HB := n10_
             clear n0_ n1_ n2_ n3_ n4_ n5_ n6_ n7_ n8_ n9_ n10_
             have hHeld : w15.cell? ⟨gb216, 0, none⟩ = some (.int .i64 a0_0) ∧ w15.cell? ⟨gb216, 1, none⟩ = some (.int .i64 a0_1) ∧ w15.cell? ⟨gb216, 2, none⟩ = some (.slice A0_2 l0_2.length c0_2) := hS_
             refine norm_ (a' := ?_) ?_ ?_
             rotate_left
             ·simp only [putAll, Act.put, List.setIfInBounds_toArray, List.set_cons_zero, List.set_cons_succ]
              rfl
             refine one_ (i := 9) (N := some 25) #[true, true, true, true, true, true, true, true, true, true, false, true, true, false, false] rfl rfl (one_of HT_.out (by kernel_rfl)) (by decide) (fun K hK => ?_)
             refine Kd.R_lit_step (Kd.int .u8) _ 5 ?hg (N := 25) ?hd (xs := ([(wrap64 ((wrap64 (48 + (ji4))) - 1)) % 256] : List Int)) (inner := [.int .u8 ((wrap64 ((wrap64 (48 + (ji4))) - 1)) % 256)]) (ok := fun _ => True) (okp := fun _ => True) ?hr ?hp (fun _ hk => hk) trivial (Below.refl _ _) (Nat.le_refl _) (by simp) ?_; (case hd => rfl); (case hg => rfl); (case hr => first | (go_simp; done) | (go_simp; rfl)); (case hp => exact (Reps.one (show Kd.M (Kd.int .u8) _ _ _ ((wrap64 ((wrap64 (48 + (ji4))) - 1)) % 256) [.int .u8 ((wrap64 ((wrap64 (48 + (ji4))) - 1)) % 256)] from rfl) (Reps.none _ _)))
             intro v224 w16 ho17 hb hg_ hnew_
             clear hg_ hnew_
             (first | rw [← Ny223.out] at ho17 | (simp only [Int.reduceToNat] at ho17; rw [← Ny223.out] at ho17))
             have n0_ := Aside0.mk (Kd.R_below (by (with_reducible repeat (first | apply Kd.R_alloc | apply Kd.R_drewN | apply Kd.R_drew)); exact HO222.out) hb)
             have n1_ := Aside0.mk (Kd.R_lower ho17 (below_size zB))
             have n2_ := Aside0.mk (blk_below (g := gb216) (o := .cells #[.int .i64 a0_0, .int .i64 a0_1, .slice A0_2 l0_2.length c0_2] 32 (0, 0)) zK hb)
             have n3_ := Aside0.mk (blk_below (g := gb217) (o := .cells #[.int .i64 0, .int .i64 0, .slice none 0 0] 32 (0, 0)) zK hb)
             have n4_ := Aside0.mk (blk_below (g := gb226) (o := .cells #[.int .i64 t218, .int .i64 t219, v221] 32 (0, 0)) zK hb)
             have n5_ := Aside0.mk (below_step zB hb)
             clear HO222
             clear BK216
             clear BK217
             clear BK226
             clear HB
             have HO222 := n0_
             have HO225 := n1_
             have BK216 := n2_
             have BK217 := n3_
             have BK226 := n4_
             have HB := n5_
             clear n0_ n1_ n2_ n3_ n4_ n5_
             clear hb ho17
             refine hK.out _ _ ⟨(blk_cell BK216.out 0).trans rfl, (blk_cell BK216.out 1).trans rfl, (blk_cell BK216.out 2).trans rfl⟩ (fun hHeld => ?_)
             clear hK K
             refine norm_ (a' := ?_) ?_ ?_
             rotate_left
             ·show Act.put _ (some 25) _ = _
              simp only [Act.put, List.setIfInBounds_toArray, List.set_cons_zero, List.set_cons_succ, i64_w, i32_w]
              rfl
             exact norm_ (by first | (simp only [putAll, Act.put, List.setIfInBounds_toArray, List.set_cons_zero, List.set_cons_succ]; done) | (simp only [putAll, Act.put, List.setIfInBounds_toArray, List.set_cons_zero, List.set_cons_succ]; rfl)) (hJ1_9_11_12 (v221, v224, gb226) _ ⟨hHeld, zR, zR, zK, zK, zK, GW226.out, GE226.out, NB216_226.out, NB226_216.out, NB217_226.out, NB226_217.out, zB⟩)
          · skip
            rintro ⟨v221, v224, gb226⟩ w13 ⟨hS_, h0_, h1_, h2_, h3_, h4_, h5_, h6_, h7_, h8_, h9_, h10_, h11_⟩
            have n0_ : Aside0 (Kd.R k89 89 w13 w.heap.size (fun _ => True) v221 t220) := ⟨h0_⟩
            have n1_ : Aside0 (Kd.R (Kd.int .u8) 5 w13 w.heap.size (fun _ => True) v224 y223) := ⟨h1_⟩
            have n2_ : Aside0 (w13.heap[gb216]? = some (.cells #[.int .i64 a0_0, .int .i64 a0_1, .slice A0_2 l0_2.length c0_2] 32 (0, 0))) := ⟨h2_⟩
            have n3_ : Aside0 (w13.heap[gb217]? = some (.cells #[.int .i64 0, .int .i64 0, .slice none 0 0] 32 (0, 0))) := ⟨h3_⟩
            have n4_ : Aside0 (w13.heap[gb226]? = some (.cells #[.int .i64 0, .int .i64 0, .slice none 0 0] 32 (0, 0))) := ⟨h4_⟩
            have n5_ : Aside0 (w.heap.size ≤ gb226) := ⟨h5_⟩
            have n6_ : Aside0 (w.heap.size ≤ gb226) := ⟨h6_⟩
            have n7_ : Aside0 (gb216 ≠ gb226) := ⟨h7_⟩
            have n8_ : Aside0 (gb226 ≠ gb216) := ⟨h8_⟩
            have n9_ : Aside0 (gb217 ≠ gb226) := ⟨h9_⟩
            have n10_ : Aside0 (gb226 ≠ gb217) := ⟨h10_⟩
            have n11_ : Aside0 (Below w.heap.size w w13) := ⟨h11_⟩
            clear BK216
            clear BK217
            clear HB
            clear h0_ h1_ h2_ h3_ h4_ h5_ h6_ h7_ h8_ h9_ h10_ h11_
            have HO222 := n0_
            have HO225 := n1_
            have BK216 := n2_
            have BK217 := n3_
            have BK226 := n4_
            have GW226 := n5_
            have GE226 := n6_
            have NB216_226 := n7_
            have NB226_216 := n8_
            have NB217_226 := n9_
            have NB226_217 := n10_
            have HB := n11_
            clear n0_ n1_ n2_ n3_ n4_ n5_ n6_ n7_ n8_ n9_ n10_ n11_
            have hHeld : w13.cell? ⟨gb216, 0, none⟩ = some (.int .i64 a0_0) ∧ w13.cell? ⟨gb216, 1, none⟩ = some (.int .i64 a0_1) ∧ w13.cell? ⟨gb216, 2, none⟩ = some (.slice A0_2 l0_2.length c0_2) := hS_
            refine norm_ (a' := ?_) ?_ ?_
            rotate_left
            ·simp only [putAll, Act.put, List.setIfInBounds_toArray, List.set_cons_zero, List.set_cons_succ]
             rfl
            refine two_ (i := 10) (j := 12) (Ni := some 26) (Nj := none) #[true, true, true, true, true, true, true, true, true, true, true, true, false, false, false] #[true, true, true, true, true, true, true, true, true, true, false, true, true, false, false] rfl rfl rfl rfl (two_of HT_.out (by kernel_rfl)) (by decide) (by decide) (fun K hK => ?_) (fun K hK => ?_)
            ·skip
             have hcv14 := own_string (P := Try.prog) Try.underlying112 Try.underlying5 Try.underlying9 (Kd.own_of_R HO225.out)
             refine value_ (w1 := ?_) (v := ?_) (by rfl) rfl ?_ ?_
             rotate_left 2
             ·go_simp
              constructor
              ·rfl
              ·rfl
             clear hcv14
             refine hK.out _ _ ⟨(blk_cell BK216.out 0).trans rfl, (blk_cell BK216.out 1).trans rfl, (blk_cell BK216.out 2).trans rfl⟩ (fun hHeld => ?_)
             clear hK K
             refine norm_ (a' := ?_) ?_ ?_
             rotate_left
             ·show Act.put _ (some 26) _ = _
              simp only [Act.put, List.setIfInBounds_toArray, List.set_cons_zero, List.set_cons_succ, i64_w, i32_w]
              rfl
             exact norm_ (by first | (simp only [putAll, Act.put, List.setIfInBounds_toArray, List.set_cons_zero, List.set_cons_succ]; done) | (simp only [putAll, Act.put, List.setIfInBounds_toArray, List.set_cons_zero, List.set_cons_succ]; rfl)) (hJ1_9_10_11 (v221, v224, gb226) _ ⟨hHeld, zR, zR, zK, zK, zK, GW226.out, GE226.out, NB216_226.out, NB226_216.out, NB217_226.out, NB226_217.out, zB⟩)
            ·skip
             have hs14 : w13.cell? ⟨gb226, 0, none⟩ = some (.int .i64 0) := (blk_cell BK226.out 0).trans rfl
             have hfs14 := blk_frozen BK226.out 0
             have hns14_0 := NB216_226.out
             have hns14_1 := NB217_226.out
             have hms14_0 := NB226_216.out
             have hms14_1 := NB226_217.out
             have hs15 : w13.cell? ⟨gb226, 1, none⟩ = some (.int .i64 0) := (blk_cell BK226.out 1).trans rfl
             have hfs15 := blk_frozen BK226.out 1
             have hns15_0 := NB216_226.out
             have hns15_1 := NB217_226.out
             have hms15_0 := NB226_216.out
             have hms15_1 := NB226_217.out
             have hs17 : w13.cell? ⟨gb226, 2, none⟩ = some (.slice none 0 0) := (blk_cell BK226.out 2).trans rfl
             have hfs17 := blk_frozen BK226.out 2
             have hns17_0 := NB216_226.out
             have hns17_1 := NB217_226.out
             have hms17_0 := NB226_216.out
             have hms17_1 := NB226_217.out
             obtain ⟨ab_, cb_, eb_⟩ := Kd.R_slice HO222.out
             subst eb_
             refine skip_ (w1 := ?_) (by rfl) rfl ?_ ?_
             rotate_left
             ·go_simp
              rfl
             refine hK.out _ _ ⟨((cell_far (p := ⟨gb226, _, none⟩) NB216_226.out _).trans (((cell_far (p := ⟨gb226, _, none⟩) NB216_226.out _).trans (((cell_far (p := ⟨gb226, _, none⟩) NB216_226.out _).trans (hHeld.1)))))), ((cell_far (p := ⟨gb226, _, none⟩) NB216_226.out _).trans (((cell_far (p := ⟨gb226, _, none⟩) NB216_226.out _).trans (((cell_far (p := ⟨gb226, _, none⟩) NB216_226.out _).trans (hHeld.2.1)))))), ((cell_far (p := ⟨gb226, _, none⟩) NB216_226.out _).trans (((cell_far (p := ⟨gb226, _, none⟩) NB216_226.out _).trans (((cell_far (p := ⟨gb226, _, none⟩) NB216_226.out _).trans (hHeld.2.2))))))⟩ (fun hHeld => ?_)
             clear hK K
             exact norm_ (by first | (simp only [putAll, Act.put, List.setIfInBounds_toArray, List.set_cons_zero, List.set_cons_succ]; done) | (simp only [putAll, Act.put, List.setIfInBounds_toArray, List.set_cons_zero, List.set_cons_succ]; rfl)) (hJ1_9_11_12 ((.slice ab_ t220.length cb_), v224, gb226) _ ⟨hHeld, (by (with_reducible repeat (first | apply Kd.R_alloc | apply Kd.R_drewN | apply Kd.R_drew)); exact Kd.R_mono (Kd.R_far (p := ⟨gb226, 2, none⟩) (Kd.R_far (p := ⟨gb226, 1, none⟩) (Kd.R_far (p := ⟨gb226, 0, none⟩) (Kd.R_types HO222.out BK226.out (by decide)) (fun _ hk => hk.2) (.int .i64 t218)) (fun _ hk => hk.2) (.int .i64 t219)) (fun _ hk => hk.2) ((.slice ab_ t220.length cb_))) (fun _ hk => trivial)), (by (with_reducible repeat (first | apply Kd.R_alloc | apply Kd.R_drewN | apply Kd.R_drew)); exact Kd.R_mono (Kd.R_far (p := ⟨gb226, 2, none⟩) (Kd.R_far (p := ⟨gb226, 1, none⟩) (Kd.R_far (p := ⟨gb226, 0, none⟩) (Kd.R_types HO225.out BK226.out (by decide)) (fun _ hk => hk.2) (.int .i64 t218)) (fun _ hk => hk.2) (.int .i64 t219)) (fun _ hk => hk.2) ((.slice ab_ t220.length cb_))) (fun _ hk => trivial)), (by (with_reducible repeat (first | refine blk_drewN ?_ _ | refine blk_drew ?_ | refine blk_alloc ?_ _)); refine blk_far ?_ NB216_226.out _; (with_reducible repeat (first | refine blk_drewN ?_ _ | refine blk_drew ?_ | refine blk_alloc ?_ _)); refine blk_far ?_ NB216_226.out _; (with_reducible repeat (first | refine blk_drewN ?_ _ | refine blk_drew ?_ | refine blk_alloc ?_ _)); refine blk_far ?_ NB216_226.out _; exact zK), (by (with_reducible repeat (first | refine blk_drewN ?_ _ | refine blk_drew ?_ | refine blk_alloc ?_ _)); refine blk_far ?_ NB217_226.out _; (with_reducible repeat (first | refine blk_drewN ?_ _ | refine blk_drew ?_ | refine blk_alloc ?_ _)); refine blk_far ?_ NB217_226.out _; (with_reducible repeat (first | refine blk_drewN ?_ _ | refine blk_drew ?_ | refine blk_alloc ?_ _)); refine blk_far ?_ NB217_226.out _; exact zK), (by (with_reducible repeat (first | refine blk_drewN ?_ _ | refine blk_drew ?_ | refine blk_alloc ?_ _)); refine blk_put (cs := #[.int .i64 t218, .int .i64 t219, .slice none 0 0]) ?_ 2 _ rfl; (with_reducible repeat (first | refine blk_drewN ?_ _ | refine blk_drew ?_ | refine blk_alloc ?_ _)); refine blk_put (cs := #[.int .i64 t218, .int .i64 0, .slice none 0 0]) ?_ 1 _ rfl; (with_reducible repeat (first | refine blk_drewN ?_ _ | refine blk_drew ?_ | refine blk_alloc ?_ _)); refine blk_put (cs := #[.int .i64 0, .int .i64 0, .slice none 0 0]) ?_ 0 _ rfl; exact zK), GW226.out, GE226.out, NB216_226.out, NB226_216.out, NB217_226.out, NB226_217.out, zB⟩)
        · skip
          rintro ⟨v221, v224⟩ w13 ⟨hS_, h0_, h1_, h2_, h3_, h4_⟩
          have n0_ : Aside0 (Kd.R k89 89 w13 w.heap.size (fun _ => True) v221 t220) := ⟨h0_⟩
          have n1_ : Aside0 (Kd.R (Kd.int .u8) 5 w13 w.heap.size (fun _ => True) v224 y223) := ⟨h1_⟩
          have n2_ : Aside0 (w13.heap[gb216]? = some (.cells #[.int .i64 a0_0, .int .i64 a0_1, .slice A0_2 l0_2.length c0_2] 32 (0, 0))) := ⟨h2_⟩
          have n3_ : Aside0 (w13.heap[gb217]? = some (.cells #[.int .i64 0, .int .i64 0, .slice none 0 0] 32 (0, 0))) := ⟨h3_⟩
          have n4_ : Aside0 (Below w.heap.size w w13) := ⟨h4_⟩
          clear BK216
          clear BK217
          clear HB
          clear h0_ h1_ h2_ h3_ h4_
          have HO222 := n0_
          have HO225 := n1_
          have BK216 := n2_
          have BK217 := n3_
          have HB := n4_
          clear n0_ n1_ n2_ n3_ n4_
          have hHeld : w13.cell? ⟨gb216, 0, none⟩ = some (.int .i64 a0_0) ∧ w13.cell? ⟨gb216, 1, none⟩ = some (.int .i64 a0_1) ∧ w13.cell? ⟨gb216, 2, none⟩ = some (.slice A0_2 l0_2.length c0_2) := hS_
          refine norm_ (a' := ?_) ?_ ?_
          rotate_left
          · simp only [putAll, Act.put, List.setIfInBounds_toArray, List.set_cons_zero, List.set_cons_succ]
            rfl
          refine one_ (i := 11) (N := some 5) #[true, true, true, true, true, true, true, true, true, true, true, true, false, false, false] rfl rfl (one_of HT_.out (by kernel_rfl)) (by decide) (fun K hK => ?_)
          refine box_step ?hg (N := 5) ?hd (cs := #[.int .i64 0, .int .i64 0, .slice none 0 0]) (t := 32) ?hr ?_; (case hd => rfl); (case hg => rfl); (case hr => first | (go_simp; done) | (go_simp; rfl))
          intro gb226 hg w14 hbox hb
          have n0_ := Aside0.mk (Kd.R_below (by (with_reducible repeat (first | apply Kd.R_alloc | apply Kd.R_drewN | apply Kd.R_drew)); exact HO222.out) hb)
          have n1_ := Aside0.mk (Kd.R_below (by (with_reducible repeat (first | apply Kd.R_alloc | apply Kd.R_drewN | apply Kd.R_drew)); exact HO225.out) hb)
          have n2_ := Aside0.mk (blk_below (g := gb216) (o := .cells #[.int .i64 a0_0, .int .i64 a0_1, .slice A0_2 l0_2.length c0_2] 32 (0, 0)) zK hb)
          have n3_ := Aside0.mk (blk_below (g := gb217) (o := .cells #[.int .i64 0, .int .i64 0, .slice none 0 0] 32 (0, 0)) zK hb)
          have n4_ := Aside0.mk (below_step zB hb)
          have n5_ := Aside0.mk (hbox)
          have n6_ := Aside0.mk (zG : w.heap.size ≤ gb226)
          have n7_ := Aside0.mk (zG : w.heap.size ≤ gb226)
          have n8_ := Aside0.mk ((by rw [hg]; exact Nat.ne_of_lt (blk_lt (g := gb216) (o := .cells #[.int .i64 a0_0, .int .i64 a0_1, .slice A0_2 l0_2.length c0_2] 32 (0, 0)) zK) : gb216 ≠ gb226))
          have n9_ := Aside0.mk ((by rw [hg]; exact Nat.ne_of_gt (blk_lt (g := gb216) (o := .cells #[.int .i64 a0_0, .int .i64 a0_1, .slice A0_2 l0_2.length c0_2] 32 (0, 0)) zK) : gb226 ≠ gb216))
          have n10_ := Aside0.mk ((by rw [hg]; exact Nat.ne_of_lt (blk_lt (g := gb217) (o := .cells #[.int .i64 0, .int .i64 0, .slice none 0 0] 32 (0, 0)) zK) : gb217 ≠ gb226))
          have n11_ := Aside0.mk ((by rw [hg]; exact Nat.ne_of_gt (blk_lt (g := gb217) (o := .cells #[.int .i64 0, .int .i64 0, .slice none 0 0] 32 (0, 0)) zK) : gb226 ≠ gb217))
          clear HO222
          clear HO225
          clear BK216
          clear BK217
          clear HB
          have HO222 := n0_
          have HO225 := n1_
          have BK216 := n2_
          have BK217 := n3_
          have HB := n4_
          have BK226 := n5_
          have GW226 := n6_
          have GE226 := n7_
          have NB216_226 := n8_
          have NB226_216 := n9_
          have NB217_226 := n10_
          have NB226_217 := n11_
          clear n0_ n1_ n2_ n3_ n4_ n5_ n6_ n7_ n8_ n9_ n10_ n11_
          clear hb hbox hg
          refine hK.out _ _ ⟨(blk_cell BK216.out 0).trans rfl, (blk_cell BK216.out 1).trans rfl, (blk_cell BK216.out 2).trans rfl⟩ (fun hHeld => ?_)
          clear hK K
          refine norm_ (a' := ?_) ?_ ?_
          rotate_left
          · show Act.put _ (some 5) _ = _
            simp only [Act.put, List.setIfInBounds_toArray, List.set_cons_zero, List.set_cons_succ, i64_w, i32_w]
            rfl
          exact norm_ (by first | (simp only [putAll, Act.put, List.setIfInBounds_toArray, List.set_cons_zero, List.set_cons_succ]; done) | (simp only [putAll, Act.put, List.setIfInBounds_toArray, List.set_cons_zero, List.set_cons_succ]; rfl)) (hJ1_9_10_11 (v221, v224, gb226) _ ⟨hHeld, zR, zR, zK, zK, zK, GW226.out, GE226.out, NB216_226.out, NB226_216.out, NB217_226.out, NB226_217.out, zB⟩)
      · skip
        rintro ⟨v221, v224, gb226⟩ w17 ⟨hS_, h0_, h1_, h2_, h3_, h4_, h5_, h6_, h7_, h8_, h9_, h10_, h11_⟩
        have n0_ : Aside0 (Kd.R k89 89 w17 w.heap.size (fun _ => True) v221 t220) := ⟨h0_⟩
        have n1_ : Aside0 (Kd.R (Kd.int .u8) 5 w17 w.heap.size (fun _ => True) v224 y223) := ⟨h1_⟩
        have n2_ : Aside0 (w17.heap[gb216]? = some (.cells #[.int .i64 a0_0, .int .i64 a0_1, .slice A0_2 l0_2.length c0_2] 32 (0, 0))) := ⟨h2_⟩
        have n3_ : Aside0 (w17.heap[gb217]? = some (.cells #[.int .i64 0, .int .i64 0, .slice none 0 0] 32 (0, 0))) := ⟨h3_⟩
        have n4_ : Aside0 (w17.heap[gb226]? = some (.cells #[.int .i64 t218, .int .i64 t219, v221] 32 (0, 0))) := ⟨h4_⟩
        have n5_ : Aside0 (w.heap.size ≤ gb226) := ⟨h5_⟩
        have n6_ : Aside0 (w.heap.size ≤ gb226) := ⟨h6_⟩
        have n7_ : Aside0 (gb216 ≠ gb226) := ⟨h7_⟩
        have n8_ : Aside0 (gb226 ≠ gb216) := ⟨h8_⟩
        have n9_ : Aside0 (gb217 ≠ gb226) := ⟨h9_⟩
        have n10_ : Aside0 (gb226 ≠ gb217) := ⟨h10_⟩
        have n11_ : Aside0 (Below w.heap.size w w17) := ⟨h11_⟩
        clear BK216
        clear BK217
        clear HB
        clear h0_ h1_ h2_ h3_ h4_ h5_ h6_ h7_ h8_ h9_ h10_ h11_
        have HO222 := n0_
        have HO225 := n1_
        have BK216 := n2_
        have BK217 := n3_
        have BK226 := n4_
        have GW226 := n5_
        have GE226 := n6_
        have NB216_226 := n7_
        have NB226_216 := n8_
        have NB217_226 := n9_
        have NB226_217 := n10_
        have HB := n11_
        clear n0_ n1_ n2_ n3_ n4_ n5_ n6_ n7_ n8_ n9_ n10_ n11_
        have hHeld : w17.cell? ⟨gb216, 0, none⟩ = some (.int .i64 a0_0) ∧ w17.cell? ⟨gb216, 1, none⟩ = some (.int .i64 a0_1) ∧ w17.cell? ⟨gb216, 2, none⟩ = some (.slice A0_2 l0_2.length c0_2) := hS_
        refine norm_ (a' := ?_) ?_ ?_
        rotate_left
        · simp only [putAll, Act.put, List.setIfInBounds_toArray, List.set_cons_zero, List.set_cons_succ]
          rfl
        refine one_ (i := 10) (N := some 26) #[true, true, true, true, true, true, true, true, true, true, true, true, true, false, false] rfl rfl (one_of HT_.out (by kernel_rfl)) (by decide) (fun K hK => ?_)
        have hcv18 := own_string (P := Try.prog) Try.underlying112 Try.underlying5 Try.underlying9 (Kd.own_of_R HO225.out)
        refine value_ (w1 := ?_) (v := ?_) (by rfl) rfl ?_ ?_
        rotate_left 2
        · go_simp
          constructor
          · rfl
          · rfl
        clear hcv18
        refine hK.out _ _ ⟨(blk_cell BK216.out 0).trans rfl, (blk_cell BK216.out 1).trans rfl, (blk_cell BK216.out 2).trans rfl⟩ (fun hHeld => ?_)
        clear hK K
        refine norm_ (a' := ?_) ?_ ?_
        rotate_left
        · show Act.put _ (some 26) _ = _
          simp only [Act.put, List.setIfInBounds_toArray, List.set_cons_zero, List.set_cons_succ, i64_w, i32_w]
          rfl
        exact norm_ (by first | (simp only [putAll, Act.put, List.setIfInBounds_toArray, List.set_cons_zero, List.set_cons_succ]; done) | (simp only [putAll, Act.put, List.setIfInBounds_toArray, List.set_cons_zero, List.set_cons_succ]; rfl)) (hJ1_9_10_11_12 (v221, v224, gb226) _ ⟨hHeld, zR, zR, zK, zK, zK, GW226.out, GE226.out, NB216_226.out, NB226_216.out, NB217_226.out, NB226_217.out, zB⟩)
    · skip
      rintro ⟨v221, v224, gb226⟩ w14 ⟨hS_, h0_, h1_, h2_, h3_, h4_, h5_, h6_, h7_, h8_, h9_, h10_, h11_⟩
      have n0_ : Aside0 (Kd.R k89 89 w14 w.heap.size (fun _ => True) v221 t220) := ⟨h0_⟩
      have n1_ : Aside0 (Kd.R (Kd.int .u8) 5 w14 w.heap.size (fun _ => True) v224 y223) := ⟨h1_⟩
      have n2_ : Aside0 (w14.heap[gb216]? = some (.cells #[.int .i64 a0_0, .int .i64 a0_1, .slice A0_2 l0_2.length c0_2] 32 (0, 0))) := ⟨h2_⟩
      have n3_ : Aside0 (w14.heap[gb217]? = some (.cells #[.int .i64 0, .int .i64 0, .slice none 0 0] 32 (0, 0))) := ⟨h3_⟩
      have n4_ : Aside0 (w14.heap[gb226]? = some (.cells #[.int .i64 0, .int .i64 0, .slice none 0 0] 32 (0, 0))) := ⟨h4_⟩
      have n5_ : Aside0 (w.heap.size ≤ gb226) := ⟨h5_⟩
      have n6_ : Aside0 (w.heap.size ≤ gb226) := ⟨h6_⟩
      have n7_ : Aside0 (gb216 ≠ gb226) := ⟨h7_⟩
      have n8_ : Aside0 (gb226 ≠ gb216) := ⟨h8_⟩
      have n9_ : Aside0 (gb217 ≠ gb226) := ⟨h9_⟩
      have n10_ : Aside0 (gb226 ≠ gb217) := ⟨h10_⟩
      have n11_ : Aside0 (Below w.heap.size w w14) := ⟨h11_⟩
      clear BK216
      clear BK217
      clear HB
      clear h0_ h1_ h2_ h3_ h4_ h5_ h6_ h7_ h8_ h9_ h10_ h11_
      have HO222 := n0_
      have HO225 := n1_
      have BK216 := n2_
      have BK217 := n3_
      have BK226 := n4_
      have GW226 := n5_
      have GE226 := n6_
      have NB216_226 := n7_
      have NB226_216 := n8_
      have NB217_226 := n9_
      have NB226_217 := n10_
      have HB := n11_
      clear n0_ n1_ n2_ n3_ n4_ n5_ n6_ n7_ n8_ n9_ n10_ n11_
      have hHeld : w14.cell? ⟨gb216, 0, none⟩ = some (.int .i64 a0_0) ∧ w14.cell? ⟨gb216, 1, none⟩ = some (.int .i64 a0_1) ∧ w14.cell? ⟨gb216, 2, none⟩ = some (.slice A0_2 l0_2.length c0_2) := hS_
      obtain ⟨Ao17, co17, eo17⟩ := Kd.R_slice HO222.out
      (first | subst eo17 | (injection eo17 with f1_ f2_ f3_; have f4_ := f1_.symm; have f5_ := f3_.symm; clear f1_ f2_ f3_; subst f4_; subst f5_))
      refine norm_ (a' := ?_) ?_ ?_
      rotate_left
      · simp only [putAll, Act.put, List.setIfInBounds_toArray, List.set_cons_zero, List.set_cons_succ]
        rfl
      refine one_ (i := 12) (N := none) #[true, true, true, true, true, true, true, true, true, true, true, true, true, false, false] rfl rfl (one_of HT_.out (by kernel_rfl)) (by decide) (fun K hK => ?_)
      have hs15 : w14.cell? ⟨gb226, 0, none⟩ = some (.int .i64 0) := (blk_cell BK226.out 0).trans rfl
      have hfs15 := blk_frozen BK226.out 0
      have hns15_0 := NB216_226.out
      have hns15_1 := NB217_226.out
      have hms15_0 := NB226_216.out
      have hms15_1 := NB226_217.out
      have hs16 : w14.cell? ⟨gb226, 1, none⟩ = some (.int .i64 0) := (blk_cell BK226.out 1).trans rfl
      have hfs16 := blk_frozen BK226.out 1
      have hns16_0 := NB216_226.out
      have hns16_1 := NB217_226.out
      have hms16_0 := NB226_216.out
      have hms16_1 := NB226_217.out
      have hs18 : w14.cell? ⟨gb226, 2, none⟩ = some (.slice none 0 0) := (blk_cell BK226.out 2).trans rfl
      have hfs18 := blk_frozen BK226.out 2
      have hns18_0 := NB216_226.out
      have hns18_1 := NB217_226.out
      have hms18_0 := NB226_216.out
      have hms18_1 := NB226_217.out
      refine skip_ (w1 := ?_) (by rfl) rfl ?_ ?_
      rotate_left
      · go_simp
        rfl
      refine hK.out _ _ ⟨((cell_far (p := ⟨gb226, _, none⟩) NB216_226.out _).trans (((cell_far (p := ⟨gb226, _, none⟩) NB216_226.out _).trans (((cell_far (p := ⟨gb226, _, none⟩) NB216_226.out _).trans (hHeld.1)))))), ((cell_far (p := ⟨gb226, _, none⟩) NB216_226.out _).trans (((cell_far (p := ⟨gb226, _, none⟩) NB216_226.out _).trans (((cell_far (p := ⟨gb226, _, none⟩) NB216_226.out _).trans (hHeld.2.1)))))), ((cell_far (p := ⟨gb226, _, none⟩) NB216_226.out _).trans (((cell_far (p := ⟨gb226, _, none⟩) NB216_226.out _).trans (((cell_far (p := ⟨gb226, _, none⟩) NB216_226.out _).trans (hHeld.2.2))))))⟩ (fun hHeld => ?_)
      clear hK K
      exact norm_ (by first | (simp only [putAll, Act.put, List.setIfInBounds_toArray, List.set_cons_zero, List.set_cons_succ]; done) | (simp only [putAll, Act.put, List.setIfInBounds_toArray, List.set_cons_zero, List.set_cons_succ]; rfl)) (hJ1_9_10_11_12 (.slice Ao17 t220.length co17, v224, gb226) _ ⟨hHeld, (by (with_reducible repeat (first | apply Kd.R_alloc | apply Kd.R_drewN | apply Kd.R_drew)); exact Kd.R_mono (Kd.R_far (p := ⟨gb226, 2, none⟩) (Kd.R_far (p := ⟨gb226, 1, none⟩) (Kd.R_far (p := ⟨gb226, 0, none⟩) (Kd.R_types HO222.out BK226.out (by decide)) (fun _ hk => hk.2) (.int .i64 t218)) (fun _ hk => hk.2) (.int .i64 t219)) (fun _ hk => hk.2) (.slice Ao17 t220.length co17)) (fun _ hk => trivial)), (by (with_reducible repeat (first | apply Kd.R_alloc | apply Kd.R_drewN | apply Kd.R_drew)); exact Kd.R_mono (Kd.R_far (p := ⟨gb226, 2, none⟩) (Kd.R_far (p := ⟨gb226, 1, none⟩) (Kd.R_far (p := ⟨gb226, 0, none⟩) (Kd.R_types HO225.out BK226.out (by decide)) (fun _ hk => hk.2) (.int .i64 t218)) (fun _ hk => hk.2) (.int .i64 t219)) (fun _ hk => hk.2) (.slice Ao17 t220.length co17)) (fun _ hk => trivial)), (by (with_reducible repeat (first | refine blk_drewN ?_ _ | refine blk_drew ?_ | refine blk_alloc ?_ _)); refine blk_far ?_ NB216_226.out _; (with_reducible repeat (first | refine blk_drewN ?_ _ | refine blk_drew ?_ | refine blk_alloc ?_ _)); refine blk_far ?_ NB216_226.out _; (with_reducible repeat (first | refine blk_drewN ?_ _ | refine blk_drew ?_ | refine blk_alloc ?_ _)); refine blk_far ?_ NB216_226.out _; exact zK), (by (with_reducible repeat (first | refine blk_drewN ?_ _ | refine blk_drew ?_ | refine blk_alloc ?_ _)); refine blk_far ?_ NB217_226.out _; (with_reducible repeat (first | refine blk_drewN ?_ _ | refine blk_drew ?_ | refine blk_alloc ?_ _)); refine blk_far ?_ NB217_226.out _; (with_reducible repeat (first | refine blk_drewN ?_ _ | refine blk_drew ?_ | refine blk_alloc ?_ _)); refine blk_far ?_ NB217_226.out _; exact zK), (by (with_reducible repeat (first | refine blk_drewN ?_ _ | refine blk_drew ?_ | refine blk_alloc ?_ _)); refine blk_put (cs := #[.int .i64 t218, .int .i64 t219, .slice none 0 0]) ?_ 2 _ rfl; (with_reducible repeat (first | refine blk_drewN ?_ _ | refine blk_drew ?_ | refine blk_alloc ?_ _)); refine blk_put (cs := #[.int .i64 t218, .int .i64 0, .slice none 0 0]) ?_ 1 _ rfl; (with_reducible repeat (first | refine blk_drewN ?_ _ | refine blk_drew ?_ | refine blk_alloc ?_ _)); refine blk_put (cs := #[.int .i64 0, .int .i64 0, .slice none 0 0]) ?_ 0 _ rfl; exact zK), GW226.out, GE226.out, NB216_226.out, NB226_216.out, NB217_226.out, NB226_217.out, zB⟩)
  rintro ⟨v221, v224, gb226⟩ w18 ⟨hS_, h0_, h1_, h2_, h3_, h4_, h5_, h6_, h7_, h8_, h9_, h10_, h11_⟩
  have n0_ : Aside0 (Kd.R k89 89 w18 w.heap.size (fun _ => True) v221 t220) := ⟨h0_⟩
  have n1_ : Aside0 (Kd.R (Kd.int .u8) 5 w18 w.heap.size (fun _ => True) v224 y223) := ⟨h1_⟩
  have n2_ : Aside0 (w18.heap[gb216]? = some (.cells #[.int .i64 a0_0, .int .i64 a0_1, .slice A0_2 l0_2.length c0_2] 32 (0, 0))) := ⟨h2_⟩
  have n3_ : Aside0 (w18.heap[gb217]? = some (.cells #[.int .i64 0, .int .i64 0, .slice none 0 0] 32 (0, 0))) := ⟨h3_⟩
  have n4_ : Aside0 (w18.heap[gb226]? = some (.cells #[.int .i64 t218, .int .i64 t219, v221] 32 (0, 0))) := ⟨h4_⟩
  have n5_ : Aside0 (w.heap.size ≤ gb226) := ⟨h5_⟩
  have n6_ : Aside0 (w.heap.size ≤ gb226) := ⟨h6_⟩
  have n7_ : Aside0 (gb216 ≠ gb226) := ⟨h7_⟩
  have n8_ : Aside0 (gb226 ≠ gb216) := ⟨h8_⟩
  have n9_ : Aside0 (gb217 ≠ gb226) := ⟨h9_⟩
  have n10_ : Aside0 (gb226 ≠ gb217) := ⟨h10_⟩
  have n11_ : Aside0 (Below w.heap.size w w18) := ⟨h11_⟩
  clear BK216
  clear BK217
  clear HB
  clear h0_ h1_ h2_ h3_ h4_ h5_ h6_ h7_ h8_ h9_ h10_ h11_
  have HO222 := n0_
  have HO225 := n1_
  have BK216 := n2_
  have BK217 := n3_
  have BK226 := n4_
  have GW226 := n5_
  have GE226 := n6_
  have NB216_226 := n7_
  have NB226_216 := n8_
  have NB217_226 := n9_
  have NB226_217 := n10_
  have HB := n11_
  clear n0_ n1_ n2_ n3_ n4_ n5_ n6_ n7_ n8_ n9_ n10_ n11_
  have hHeld : w18.cell? ⟨gb216, 0, none⟩ = some (.int .i64 a0_0) ∧ w18.cell? ⟨gb216, 1, none⟩ = some (.int .i64 a0_1) ∧ w18.cell? ⟨gb216, 2, none⟩ = some (.slice A0_2 l0_2.length c0_2) := hS_
  refine norm_ (a' := ?_) ?_ ?_
  rotate_left
  · simp only [putAll, Act.put, List.setIfInBounds_toArray, List.set_cons_zero, List.set_cons_succ]
    rfl
  refine zP 13 (N := some 6) (h := ?_)
  refine zP 14 (N := some 7) (h := ?_)
  refine done_ (done_of HT_.out (by kernel_rfl)) ?_
  go_upto_if 28 with (fail)
  go_cut [7] (fun v7 wc => ∃ (kq : Nat) (x7_4 : Int), v7 = .int .i64 x7_4 ∧ Aside0 (spec_l09Step.j0 kq (strOfNums y223) x7_4 a0_0 a0_1 l0_2 t218 t219 t220 = some (r1, r2, r3)) ∧ Aside0 (kq ≤ k) ∧ Aside0 (Kd.R k89 89 wc w.heap.size (fun _ => True) v221 t220) ∧ Aside0 (wc.heap[gb216]? = some (.cells #[.int .i64 a0_0, .int .i64 a0_1, (.slice A0_2 l0_2.length c0_2)] 32 (0, 0))) ∧ Aside0 (wc.heap[gb217]? = some (.cells #[.int .i64 0, .int .i64 0, (.slice none 0 0)] 32 (0, 0))) ∧ Aside0 (wc.heap[gb226]? = some (.cells #[.int .i64 t218, .int .i64 t219, v221] 32 (0, 0))) ∧ Aside0 (Below w.heap.size w wc))
  case first =>
    have H := HC5.out
    clear HC5
    by_cases c19 : a1 < 0
    · rw [if_pos c19] at H
      have c19b0 : decide (a1 < 0) = true := decide_eq_true c19
      clear c19
      (first | rw [c19b0] | (simp only [i64_w, i32_w]; rw [c19b0]) | skip)
      have H' := Aside0.mk H
      clear H
      go_wp2
      go_meet
      case rel => exact ⟨_, ((-1)), (by first | rfl | (simp; done) | (simp [*]; done)), H', ⟨by first | omega | exact Nat.le_refl _⟩, ⟨zR⟩, ⟨zK⟩, ⟨zK⟩, ⟨zK⟩, ⟨zB⟩⟩
    · rw [if_neg c19] at H
      have c19b0 : decide (a1 < 0) = false := decide_eq_false c19
      clear c19
      (first | rw [c19b0] | (simp only [i64_w, i32_w]; rw [c19b0]) | skip)
      have H' := Aside0.mk H
      clear H
      go_wp2
      go_meet
      case rel => exact ⟨_, (1), (by first | rfl | (simp; done) | (simp [*]; done)), H', ⟨by first | omega | exact Nat.le_refl _⟩, ⟨zR⟩, ⟨zK⟩, ⟨zK⟩, ⟨zK⟩, ⟨zB⟩⟩
  case rest =>
    clear HC5
    obtain ⟨kq, x7_4, rfl, HA, HJ4, HO_227002, BK216, BK217, BK226, HB⟩ := hcut
    cases kq with
    | zero => exact absurd HA.out (by simp [spec_l09Step.j0])
    | succ kj4 =>
      have H := HA.out
      clear HA
      simp only [spec_l09Step.j0] at H
      have H' := Aside0.mk H
      clear H
      go_wp2
      go_loopg [8] kj4 (fun kq v8 w' => ∃ (x8_2 : Int) (x227002_2 : List (S89)) (u227002 : Value), v8 = .int .i64 x8_2 ∧ Aside0 (spec_l09Step.l0 kq (strOfNums y223) x7_4 x8_2 a0_0 a0_1 l0_2 t218 t219 x227002_2 = some (r1, r2, r3)) ∧ Aside0 (kq ≤ kj4) ∧ Aside0 (Kd.R k89 89 w' w.heap.size (fun _ => True) u227002 x227002_2) ∧ Aside0 (w'.heap[gb216]? = some (.cells #[.int .i64 a0_0, .int .i64 a0_1, (.slice A0_2 l0_2.length c0_2)] 32 (0, 0))) ∧ Aside0 (w'.heap[gb217]? = some (.cells #[.int .i64 0, .int .i64 0, (.slice none 0 0)] 32 (0, 0))) ∧ Aside0 (w'.heap[gb226]? = some (.cells #[.int .i64 t218, .int .i64 t219, u227002] 32 (0, 0))) ∧ Aside0 (Below w.heap.size w w'))
      case atStart => exact ⟨(0), (t220), (v221), (by first | rfl | (simp; done) | (simp [*]; done)), H', ⟨Nat.le_refl _⟩, ⟨zR⟩, ⟨zK⟩, ⟨zK⟩, ⟨zK⟩, ⟨zB⟩⟩
      case round =>
        clear H'
        obtain ⟨x8_2, x227002_2, u227002, rfl, HA, HK2, HO_227002, BK216, BK217, BK226, HB⟩ := hrel
        cases gk with
        | zero => exact absurd HA.out (by simp [spec_l09Step.l0])
        | succ k2 =>
          have H := HA.out
          clear HA
          simp only [spec_l09Step.l0] at H
          by_cases c20 : x8_2 < (l0_2.length : Int)
          · rw [if_pos c20] at H
            have c20b0 : decide (x8_2 < (l0_2.length : Int)) = true := decide_eq_true c20
            clear c20
            by_cases c21 : 0 ≤ x8_2
            ·rw [if_pos c21] at H
             have c21b0 : decide (0 ≤ x8_2) = true := decide_eq_true c21
             clear c21
             have H' := Aside0.mk H
             clear H
             have hnb22 := NB216_217.out
             have hnc22 := NB217_216.out
             have hnb23 := NB216_226.out
             have hnc23 := NB226_216.out
             have hcz24_0 : wr.cell? ⟨gb216, 0, none⟩ = some (.int .i64 a0_0) := zE BK216
             have hcz24_1 : wr.cell? ⟨gb216, 1, none⟩ = some (.int .i64 a0_1) := zE BK216
             have hcz24_2 : wr.cell? ⟨gb216, 2, none⟩ = some (.slice A0_2 l0_2.length c0_2) := zE BK216
             have hfz24_0 := blk_frozen BK216.out 0
             have hfz24_1 := blk_frozen BK216.out 1
             have hfz24_2 := blk_frozen BK216.out 2
             try go_wp2
             have n0_ := Aside0.mk (Kd.R_drew HO_227002.out)
             have n1_ := Aside0.mk (blk_drew BK216.out)
             have n2_ := Aside0.mk (blk_drew BK217.out)
             have n3_ := Aside0.mk (blk_drew BK226.out)
             have n4_ := Aside0.mk (below_drew1 HB.out)
             clear HO_227002
             clear BK216
             clear BK217
             clear BK226
             clear HB
             have HO_227002 := n0_
             have BK216 := n1_
             have BK217 := n2_
             have BK226 := n3_
             have HB := n4_
             clear n0_ n1_ n2_ n3_ n4_
             have p227 : 0 ≤ (x8_2 : Int) := zD
             have q227 : x8_2 < (l0_2.length : Int) := zD
             obtain ⟨ad227, e227, hx227_0, hx227_1, hx227_2⟩ := at_T89 HR0_2.out x8_2 p227 q227
             have hw227_2 := hx227_2
             have hw227_1 := hx227_1
             have hw227_0 := hx227_0
             cases e227
             replace hx227_0 := zH HB hx227_0
             replace hx227_1 := zH HB hx227_1
             replace hx227_2 := zH HB hx227_2
             replace p227 := eq_true p227
             replace q227 := eq_true q227
             have p228 : 0 ≤ (x8_2 : Int) := zD
             have q228 : x8_2 < (l0_2.length : Int) := zD
             obtain ⟨ad228, e228, hx228_0, hx228_1, hx228_2⟩ := at_T89 HR0_2.out x8_2 p228 q228
             have hw228_2 := hx228_2
             have hw228_1 := hx228_1
             have hw228_0 := hx228_0
             obtain rfl : ad227 = ad228 := (by injection e228)
             replace hx228_0 := zH HB hx228_0
             replace hx228_1 := zH HB hx228_1
             replace hx228_2 := zH HB hx228_2
             replace p228 := eq_true p228
             replace q228 := eq_true q228
             refine start_ (n := 15) (S := fun w' => w'.cell? ⟨gb216, 0, none⟩ = some (.int .i64 a0_0) ∧ w'.cell? ⟨gb216, 1, none⟩ = some (.int .i64 a0_1) ∧ w'.cell? ⟨gb216, 2, none⟩ = some (.slice (some ad227) l0_2.length c0_2) ∧ w'.cell? (ad227.add ((x8_2).toNat * 3)) = some (.string ((rd_T89 l0_2 x8_2).f0)) ∧ w'.cell? ⟨(ad227.add ((x8_2).toNat * 3)).block, (ad227.add ((x8_2).toNat * 3)).off + 1, none⟩ = some (.int .i64 ((rd_T89 l0_2 x8_2).f1.f0)) ∧ w'.cell? ⟨(ad227.add ((x8_2).toNat * 3)).block, (ad227.add ((x8_2).toNat * 3)).off + 2, none⟩ = some (.int .i64 ((rd_T89 l0_2 x8_2).f1.f1)) ∧ w'.cell? (ad227.add ((x8_2).toNat * 3)) = some (.string ((rd_T89 l0_2 x8_2).f0)) ∧ w'.cell? ⟨(ad227.add ((x8_2).toNat * 3)).block, (ad227.add ((x8_2).toNat * 3)).off + 1, none⟩ = some (.int .i64 ((rd_T89 l0_2 x8_2).f1.f0)) ∧ w'.cell? ⟨(ad227.add ((x8_2).toNat * 3)).block, (ad227.add ((x8_2).toNat * 3)).off + 2, none⟩ = some (.int .i64 ((rd_T89 l0_2 x8_2).f1.f1))) (ds := []) #[false, false, false, false, false, false, false, false, false, false, false, false, false, false, false] (by kernel_rfl) rfl rfl ⟨(blk_cell BK216.out 0).trans rfl, (blk_cell BK216.out 1).trans rfl, (blk_cell BK216.out 2).trans rfl, (zH HB hw227_0 :), (zH HB hw227_1 :), (zH HB hw227_2 :), (zH HB hw228_0 :), (zH HB hw228_1 :), (zH HB hw228_2 :)⟩ (fun hHeld => ?_); refine with_tabW spec_l09Step.tab7 spec_l09Step.bits7 (fun HT_ HW_ => ?_)
             generalize wr.drew = w25 at HO_227002 BK216 BK217 BK226 HB hx227_0 hx227_1 hx227_2 hx228_0 hx228_1 hx228_2 hHeld ⊢
             refine zP 0 (N := some 36) (h := ?_)
             refine zP 2 (N := some 38) (h := ?_)
             refine zP 6 (N := some 42) (h := ?_)
             refine zP 8 (N := some 44) (h := ?_)
             refine zT 1 hHeld (N := some 37) (h := ?_)
             refine zP 3 (N := some 39) (h := ?_)
             refine zP 4 (N := some 40) (h := ?_)
             refine zT 5 hHeld (N := some 41) (h := ?_)
             refine zT 7 hHeld (N := some 43) (h := ?_)
             refine zP 9 (N := some 45) (h := ?_)
             refine zP 10 (N := some 46) (h := ?_)
             refine zT 11 hHeld (N := some 47) (h := ?_)
             refine one_ (i := 12) (N := some 10) #[true, true, true, true, true, true, true, true, true, true, true, true, true, false, false] rfl rfl (one_of HT_.out (by kernel_rfl)) (by decide) (fun K hK => ?_)
             refine box_step ?hg (N := 10) ?hd (cs := #[.int .i64 0, .int .i64 0]) (t := 27) ?hr ?_; (case hd => rfl); (case hg => rfl); (case hr => first | (go_simp; done) | (go_simp; rfl))
             intro gb229 hg w26 hbox hb
             have n0_ := Aside0.mk (Kd.R_below (by (with_reducible repeat (first | apply Kd.R_alloc | apply Kd.R_drewN | apply Kd.R_drew)); exact HO_227002.out) hb)
             have n1_ := Aside0.mk (blk_below (g := gb216) (o := .cells #[.int .i64 a0_0, .int .i64 a0_1, .slice (some ad227) l0_2.length c0_2] 32 (0, 0)) zK hb)
             have n2_ := Aside0.mk (blk_below (g := gb217) (o := .cells #[.int .i64 0, .int .i64 0, .slice none 0 0] 32 (0, 0)) zK hb)
             have n3_ := Aside0.mk (blk_below (g := gb226) (o := .cells #[.int .i64 t218, .int .i64 t219, u227002] 32 (0, 0)) zK hb)
             have n4_ := Aside0.mk (below_step zB hb)
             have n5_ := Aside0.mk (hbox)
             have n6_ := Aside0.mk (zG : w.heap.size ≤ gb229)
             have n7_ := Aside0.mk (zG : w.heap.size ≤ gb229)
             have n8_ := Aside0.mk ((by rw [hg]; exact Nat.ne_of_lt (blk_lt (g := gb216) (o := .cells #[.int .i64 a0_0, .int .i64 a0_1, .slice (some ad227) l0_2.length c0_2] 32 (0, 0)) zK) : gb216 ≠ gb229))
             have n9_ := Aside0.mk ((by rw [hg]; exact Nat.ne_of_gt (blk_lt (g := gb216) (o := .cells #[.int .i64 a0_0, .int .i64 a0_1, .slice (some ad227) l0_2.length c0_2] 32 (0, 0)) zK) : gb229 ≠ gb216))
             have n10_ := Aside0.mk ((by rw [hg]; exact Nat.ne_of_lt (blk_lt (g := gb217) (o := .cells #[.int .i64 0, .int .i64 0, .slice none 0 0] 32 (0, 0)) zK) : gb217 ≠ gb229))
             have n11_ := Aside0.mk ((by rw [hg]; exact Nat.ne_of_gt (blk_lt (g := gb217) (o := .cells #[.int .i64 0, .int .i64 0, .slice none 0 0] 32 (0, 0)) zK) : gb229 ≠ gb217))
             have n12_ := Aside0.mk ((by rw [hg]; exact Nat.ne_of_lt (blk_lt (g := gb226) (o := .cells #[.int .i64 t218, .int .i64 t219, u227002] 32 (0, 0)) zK) : gb226 ≠ gb229))
             have n13_ := Aside0.mk ((by rw [hg]; exact Nat.ne_of_gt (blk_lt (g := gb226) (o := .cells #[.int .i64 t218, .int .i64 t219, u227002] 32 (0, 0)) zK) : gb229 ≠ gb226))
             clear HO_227002
             clear BK216
             clear BK217
             clear BK226
             clear HB
             have HO_227002 := n0_
             have BK216 := n1_
             have BK217 := n2_
             have BK226 := n3_
             have HB := n4_
             have BK229 := n5_
             have GW229 := n6_
             have GE229 := n7_
             have NB216_229 := n8_
             have NB229_216 := n9_
             have NB217_229 := n10_
             have NB229_217 := n11_
             have NB226_229 := n12_
             have NB229_226 := n13_
             clear n0_ n1_ n2_ n3_ n4_ n5_ n6_ n7_ n8_ n9_ n10_ n11_ n12_ n13_
             clear hb hbox hg
             refine hK.out _ _ ⟨(blk_cell BK216.out 0).trans rfl, (blk_cell BK216.out 1).trans rfl, (blk_cell BK216.out 2).trans rfl, (zH HB hw227_0 :), (zH HB hw227_1 :), (zH HB hw227_2 :), (zH HB hw228_0 :), (zH HB hw228_1 :), (zH HB hw228_2 :)⟩ (fun hHeld => ?_)
             clear hK K
             refine norm_ (a' := ?_) ?_ ?_
             rotate_left
             ·show Act.put _ (some 10) _ = _
              simp only [Act.put, List.setIfInBounds_toArray, List.set_cons_zero, List.set_cons_succ, i64_w, i32_w]
              rfl
             refine zP 13 (N := some 9) (h := ?_)
             refine one_ (i := 14) (N := none) #[true, true, true, true, true, true, true, true, true, true, true, true, true, true, true] rfl rfl (one_of HT_.out (by kernel_rfl)) (by decide) (fun K hK => ?_)
             have hs27 : w26.cell? ⟨gb229, 0, none⟩ = some (.int .i64 0) := (blk_cell BK229.out 0).trans rfl
             have hfs27 := blk_frozen BK229.out 0
             have hns27_0 := NB216_229.out
             have hns27_1 := NB217_229.out
             have hns27_2 := NB226_229.out
             have hms27_0 := NB229_216.out
             have hms27_1 := NB229_217.out
             have hms27_2 := NB229_226.out
             have hs28 : w26.cell? ⟨gb229, 1, none⟩ = some (.int .i64 0) := (blk_cell BK229.out 1).trans rfl
             have hfs28 := blk_frozen BK229.out 1
             have hns28_0 := NB216_229.out
             have hns28_1 := NB217_229.out
             have hns28_2 := NB226_229.out
             have hms28_0 := NB229_216.out
             have hms28_1 := NB229_217.out
             have hms28_2 := NB229_226.out
             refine skip_ (w1 := ?_) (by rfl) rfl ?_ ?_
             rotate_left
             ·go_simp
              rfl
             refine hK.out _ _ ⟨((cell_far (p := ⟨gb229, _, none⟩) NB216_229.out _).trans (((cell_far (p := ⟨gb229, _, none⟩) NB216_229.out _).trans (hHeld.1)))), ((cell_far (p := ⟨gb229, _, none⟩) NB216_229.out _).trans (((cell_far (p := ⟨gb229, _, none⟩) NB216_229.out _).trans (hHeld.2.1)))), ((cell_far (p := ⟨gb229, _, none⟩) NB216_229.out _).trans (((cell_far (p := ⟨gb229, _, none⟩) NB216_229.out _).trans (hHeld.2.2.1)))), ((cell_far (p := ⟨gb229, _, none⟩) (by first | exact Nat.ne_of_lt (Nat.lt_of_lt_of_le (by have := World.block_lt_of_cell? _ _ hw227_0; first | rwa [add_block] at this | exact this) GW229.out) | (rw [add_block]; exact Nat.ne_of_lt (Nat.lt_of_lt_of_le (by have := World.block_lt_of_cell? _ _ hw227_0; first | rwa [add_block] at this | exact this) GW229.out)) | (show (Addr.add _ _).block ≠ _; rw [add_block]; exact Nat.ne_of_lt (Nat.lt_of_lt_of_le (by have := World.block_lt_of_cell? _ _ hw227_0; first | rwa [add_block] at this | exact this) GW229.out)) | (dsimp only; exact Nat.ne_of_lt (Nat.lt_of_lt_of_le (by have := World.block_lt_of_cell? _ _ hw227_0; first | rwa [add_block] at this | exact this) GW229.out))) _).trans (((cell_far (p := ⟨gb229, _, none⟩) (by first | exact Nat.ne_of_lt (Nat.lt_of_lt_of_le (by have := World.block_lt_of_cell? _ _ hw227_0; first | rwa [add_block] at this | exact this) GW229.out) | (rw [add_block]; exact Nat.ne_of_lt (Nat.lt_of_lt_of_le (by have := World.block_lt_of_cell? _ _ hw227_0; first | rwa [add_block] at this | exact this) GW229.out)) | (show (Addr.add _ _).block ≠ _; rw [add_block]; exact Nat.ne_of_lt (Nat.lt_of_lt_of_le (by have := World.block_lt_of_cell? _ _ hw227_0; first | rwa [add_block] at this | exact this) GW229.out)) | (dsimp only; exact Nat.ne_of_lt (Nat.lt_of_lt_of_le (by have := World.block_lt_of_cell? _ _ hw227_0; first | rwa [add_block] at this | exact this) GW229.out))) _).trans (hHeld.2.2.2.1)))), ((cell_far (p := ⟨gb229, _, none⟩) (by first | exact Nat.ne_of_lt (Nat.lt_of_lt_of_le (by have := World.block_lt_of_cell? _ _ hw227_1; first | rwa [add_block] at this | exact this) GW229.out) | (rw [add_block]; exact Nat.ne_of_lt (Nat.lt_of_lt_of_le (by have := World.block_lt_of_cell? _ _ hw227_1; first | rwa [add_block] at this | exact this) GW229.out)) | (show (Addr.add _ _).block ≠ _; rw [add_block]; exact Nat.ne_of_lt (Nat.lt_of_lt_of_le (by have := World.block_lt_of_cell? _ _ hw227_1; first | rwa [add_block] at this | exact this) GW229.out)) | (dsimp only; exact Nat.ne_of_lt (Nat.lt_of_lt_of_le (by have := World.block_lt_of_cell? _ _ hw227_1; first | rwa [add_block] at this | exact this) GW229.out))) _).trans (((cell_far (p := ⟨gb229, _, none⟩) (by first | exact Nat.ne_of_lt (Nat.lt_of_lt_of_le (by have := World.block_lt_of_cell? _ _ hw227_1; first | rwa [add_block] at this | exact this) GW229.out) | (rw [add_block]; exact Nat.ne_of_lt (Nat.lt_of_lt_of_le (by have := World.block_lt_of_cell? _ _ hw227_1; first | rwa [add_block] at this | exact this) GW229.out)) | (show (Addr.add _ _).block ≠ _; rw [add_block]; exact Nat.ne_of_lt (Nat.lt_of_lt_of_le (by have := World.block_lt_of_cell? _ _ hw227_1; first | rwa [add_block] at this | exact this) GW229.out)) | (dsimp only; exact Nat.ne_of_lt (Nat.lt_of_lt_of_le (by have := World.block_lt_of_cell? _ _ hw227_1; first | rwa [add_block] at this | exact this) GW229.out))) _).trans (hHeld.2.2.2.2.1)))), ((cell_far (p := ⟨gb229, _, none⟩) (by first | exact Nat.ne_of_lt (Nat.lt_of_lt_of_le (by have := World.block_lt_of_cell? _ _ hw227_2; first | rwa [add_block] at this | exact this) GW229.out) | (rw [add_block]; exact Nat.ne_of_lt (Nat.lt_of_lt_of_le (by have := World.block_lt_of_cell? _ _ hw227_2; first | rwa [add_block] at this | exact this) GW229.out)) | (show (Addr.add _ _).block ≠ _; rw [add_block]; exact Nat.ne_of_lt (Nat.lt_of_lt_of_le (by have := World.block_lt_of_cell? _ _ hw227_2; first | rwa [add_block] at this | exact this) GW229.out)) | (dsimp only; exact Nat.ne_of_lt (Nat.lt_of_lt_of_le (by have := World.block_lt_of_cell? _ _ hw227_2; first | rwa [add_block] at this | exact this) GW229.out))) _).trans (((cell_far (p := ⟨gb229, _, none⟩) (by first | exact Nat.ne_of_lt (Nat.lt_of_lt_of_le (by have := World.block_lt_of_cell? _ _ hw227_2; first | rwa [add_block] at this | exact this) GW229.out) | (rw [add_block]; exact Nat.ne_of_lt (Nat.lt_of_lt_of_le (by have := World.block_lt_of_cell? _ _ hw227_2; first | rwa [add_block] at this | exact this) GW229.out)) | (show (Addr.add _ _).block ≠ _; rw [add_block]; exact Nat.ne_of_lt (Nat.lt_of_lt_of_le (by have := World.block_lt_of_cell? _ _ hw227_2; first | rwa [add_block] at this | exact this) GW229.out)) | (dsimp only; exact Nat.ne_of_lt (Nat.lt_of_lt_of_le (by have := World.block_lt_of_cell? _ _ hw227_2; first | rwa [add_block] at this | exact this) GW229.out))) _).trans (hHeld.2.2.2.2.2.1)))), ((cell_far (p := ⟨gb229, _, none⟩) (by first | exact Nat.ne_of_lt (Nat.lt_of_lt_of_le (by have := World.block_lt_of_cell? _ _ hw228_0; first | rwa [add_block] at this | exact this) GW229.out) | (rw [add_block]; exact Nat.ne_of_lt (Nat.lt_of_lt_of_le (by have := World.block_lt_of_cell? _ _ hw228_0; first | rwa [add_block] at this | exact this) GW229.out)) | (show (Addr.add _ _).block ≠ _; rw [add_block]; exact Nat.ne_of_lt (Nat.lt_of_lt_of_le (by have := World.block_lt_of_cell? _ _ hw228_0; first | rwa [add_block] at this | exact this) GW229.out)) | (dsimp only; exact Nat.ne_of_lt (Nat.lt_of_lt_of_le (by have := World.block_lt_of_cell? _ _ hw228_0; first | rwa [add_block] at this | exact this) GW229.out))) _).trans (((cell_far (p := ⟨gb229, _, none⟩) (by first | exact Nat.ne_of_lt (Nat.lt_of_lt_of_le (by have := World.block_lt_of_cell? _ _ hw228_0; first | rwa [add_block] at this | exact this) GW229.out) | (rw [add_block]; exact Nat.ne_of_lt (Nat.lt_of_lt_of_le (by have := World.block_lt_of_cell? _ _ hw228_0; first | rwa [add_block] at this | exact this) GW229.out)) | (show (Addr.add _ _).block ≠ _; rw [add_block]; exact Nat.ne_of_lt (Nat.lt_of_lt_of_le (by have := World.block_lt_of_cell? _ _ hw228_0; first | rwa [add_block] at this | exact this) GW229.out)) | (dsimp only; exact Nat.ne_of_lt (Nat.lt_of_lt_of_le (by have := World.block_lt_of_cell? _ _ hw228_0; first | rwa [add_block] at this | exact this) GW229.out))) _).trans (hHeld.2.2.2.2.2.2.1)))), ((cell_far (p := ⟨gb229, _, none⟩) (by first | exact Nat.ne_of_lt (Nat.lt_of_lt_of_le (by have := World.block_lt_of_cell? _ _ hw228_1; first | rwa [add_block] at this | exact this) GW229.out) | (rw [add_block]; exact Nat.ne_of_lt (Nat.lt_of_lt_of_le (by have := World.block_lt_of_cell? _ _ hw228_1; first | rwa [add_block] at this | exact this) GW229.out)) | (show (Addr.add _ _).block ≠ _; rw [add_block]; exact Nat.ne_of_lt (Nat.lt_of_lt_of_le (by have := World.block_lt_of_cell? _ _ hw228_1; first | rwa [add_block] at this | exact this) GW229.out)) | (dsimp only; exact Nat.ne_of_lt (Nat.lt_of_lt_of_le (by have := World.block_lt_of_cell? _ _ hw228_1; first | rwa [add_block] at this | exact this) GW229.out))) _).trans (((cell_far (p := ⟨gb229, _, none⟩) (by first | exact Nat.ne_of_lt (Nat.lt_of_lt_of_le (by have := World.block_lt_of_cell? _ _ hw228_1; first | rwa [add_block] at this | exact this) GW229.out) | (rw [add_block]; exact Nat.ne_of_lt (Nat.lt_of_lt_of_le (by have := World.block_lt_of_cell? _ _ hw228_1; first | rwa [add_block] at this | exact this) GW229.out)) | (show (Addr.add _ _).block ≠ _; rw [add_block]; exact Nat.ne_of_lt (Nat.lt_of_lt_of_le (by have := World.block_lt_of_cell? _ _ hw228_1; first | rwa [add_block] at this | exact this) GW229.out)) | (dsimp only; exact Nat.ne_of_lt (Nat.lt_of_lt_of_le (by have := World.block_lt_of_cell? _ _ hw228_1; first | rwa [add_block] at this | exact this) GW229.out))) _).trans (hHeld.2.2.2.2.2.2.2.1)))), ((cell_far (p := ⟨gb229, _, none⟩) (by first | exact Nat.ne_of_lt (Nat.lt_of_lt_of_le (by have := World.block_lt_of_cell? _ _ hw228_2; first | rwa [add_block] at this | exact this) GW229.out) | (rw [add_block]; exact Nat.ne_of_lt (Nat.lt_of_lt_of_le (by have := World.block_lt_of_cell? _ _ hw228_2; first | rwa [add_block] at this | exact this) GW229.out)) | (show (Addr.add _ _).block ≠ _; rw [add_block]; exact Nat.ne_of_lt (Nat.lt_of_lt_of_le (by have := World.block_lt_of_cell? _ _ hw228_2; first | rwa [add_block] at this | exact this) GW229.out)) | (dsimp only; exact Nat.ne_of_lt (Nat.lt_of_lt_of_le (by have := World.block_lt_of_cell? _ _ hw228_2; first | rwa [add_block] at this | exact this) GW229.out))) _).trans (((cell_far (p := ⟨gb229, _, none⟩) (by first | exact Nat.ne_of_lt (Nat.lt_of_lt_of_le (by have := World.block_lt_of_cell? _ _ hw228_2; first | rwa [add_block] at this | exact this) GW229.out) | (rw [add_block]; exact Nat.ne_of_lt (Nat.lt_of_lt_of_le (by have := World.block_lt_of_cell? _ _ hw228_2; first | rwa [add_block] at this | exact this) GW229.out)) | (show (Addr.add _ _).block ≠ _; rw [add_block]; exact Nat.ne_of_lt (Nat.lt_of_lt_of_le (by have := World.block_lt_of_cell? _ _ hw228_2; first | rwa [add_block] at this | exact this) GW229.out)) | (dsimp only; exact Nat.ne_of_lt (Nat.lt_of_lt_of_le (by have := World.block_lt_of_cell? _ _ hw228_2; first | rwa [add_block] at this | exact this) GW229.out))) _).trans (hHeld.2.2.2.2.2.2.2.2))))⟩ (fun hHeld => ?_)
             clear hK K
             refine done_ (done_of HT_.out (by kernel_rfl)) ?_
             try go_wp2
             go_loopg [9, 11] k2 (fun kq v9 v11 w' => ∃ (x9_3 : ByteArray) (x11_3 : Int) (x227002_3 : List (S89)) (x230000_3 : Int) (x230001_3 : Int) (u227002 : Value), v9 = .string x9_3 ∧ v11 = .int .i64 x11_3 ∧ Aside0 (spec_l09Step.l1 kq (strOfNums y223) x7_4 x8_2 x9_3 x11_3 a0_0 a0_1 l0_2 t218 t219 x227002_3 x230000_3 x230001_3 = some (r1, r2, r3)) ∧ Aside0 (kq ≤ k2) ∧ Aside0 (Kd.R k89 89 w' w.heap.size (fun _ => True) u227002 x227002_3) ∧ Aside0 (w'.heap[gb216]? = some (.cells #[.int .i64 a0_0, .int .i64 a0_1, (.slice (some ad227) l0_2.length c0_2)] 32 (0, 0))) ∧ Aside0 (w'.heap[gb217]? = some (.cells #[.int .i64 0, .int .i64 0, (.slice none 0 0)] 32 (0, 0))) ∧ Aside0 (w'.heap[gb226]? = some (.cells #[.int .i64 t218, .int .i64 t219, u227002] 32 (0, 0))) ∧ Aside0 (w'.heap[gb229]? = some (.cells #[.int .i64 x230000_3, .int .i64 x230001_3] 27 (0, 0))) ∧ Aside0 (Below w.heap.size w w'))
             case atStart => exact ⟨((rd_T89 l0_2 x8_2).f0), (1), (x227002_2), ((rd_T89 l0_2 x8_2).f1.f0), ((rd_T89 l0_2 x8_2).f1.f1), (u227002), (by first | rfl | (simp; done) | (simp [*]; done)), (by first | rfl | (simp; done) | (simp [*]; done)), H', ⟨Nat.le_refl _⟩, ⟨by (with_reducible repeat (first | apply Kd.R_alloc | apply Kd.R_drewN | apply Kd.R_drew)); exact Kd.R_mono (Kd.R_far (p := ⟨gb229, 1, none⟩) (Kd.R_far (p := ⟨gb229, 0, none⟩) (Kd.R_types HO_227002.out BK229.out (by decide)) (fun _ hk => hk.2) (.int .i64 ((rd_T89 l0_2 x8_2).f1.f0))) (fun _ hk => hk.2) (.int .i64 ((rd_T89 l0_2 x8_2).f1.f1))) (fun _ hk => trivial)⟩, ⟨by (with_reducible repeat (first | refine blk_drewN ?_ _ | refine blk_drew ?_ | refine blk_alloc ?_ _)); refine blk_far ?_ NB216_229.out _; (with_reducible repeat (first | refine blk_drewN ?_ _ | refine blk_drew ?_ | refine blk_alloc ?_ _)); refine blk_far ?_ NB216_229.out _; (with_reducible repeat (first | refine blk_drewN ?_ _ | refine blk_drew ?_ | refine blk_alloc ?_ _)); exact BK216.out⟩, ⟨by (with_reducible repeat (first | refine blk_drewN ?_ _ | refine blk_drew ?_ | refine blk_alloc ?_ _)); refine blk_far ?_ NB217_229.out _; (with_reducible repeat (first | refine blk_drewN ?_ _ | refine blk_drew ?_ | refine blk_alloc ?_ _)); refine blk_far ?_ NB217_229.out _; (with_reducible repeat (first | refine blk_drewN ?_ _ | refine blk_drew ?_ | refine blk_alloc ?_ _)); exact BK217.out⟩, ⟨by (with_reducible repeat (first | refine blk_drewN ?_ _ | refine blk_drew ?_ | refine blk_alloc ?_ _)); refine blk_far ?_ NB226_229.out _; (with_reducible repeat (first | refine blk_drewN ?_ _ | refine blk_drew ?_ | refine blk_alloc ?_ _)); refine blk_far ?_ NB226_229.out _; (with_reducible repeat (first | refine blk_drewN ?_ _ | refine blk_drew ?_ | refine blk_alloc ?_ _)); exact BK226.out⟩, ⟨by (with_reducible repeat (first | refine blk_drewN ?_ _ | refine blk_drew ?_ | refine blk_alloc ?_ _)); refine blk_put (cs := #[.int .i64 ((rd_T89 l0_2 x8_2).f1.f0), .int .i64 0]) ?_ 1 _ rfl; (with_reducible repeat (first | refine blk_drewN ?_ _ | refine blk_drew ?_ | refine blk_alloc ?_ _)); refine blk_put (cs := #[.int .i64 0, .int .i64 0]) ?_ 0 _ rfl; (with_reducible repeat (first | refine blk_drewN ?_ _ | refine blk_drew ?_ | refine blk_alloc ?_ _)); exact BK229.out⟩, ⟨zB⟩⟩
             case round =>
              clear H'
              obtain ⟨x9_3, x11_3, x227002_3, x230000_3, x230001_3, u227002, rfl, rfl, HA, HK3, HO_227002, BK216, BK217, BK226, BK229, HB⟩ := hrel
              cases gk with
              | zero => exact absurd HA.out (by simp [spec_l09Step.l1])
              | succ k3 =>
               have H := HA.out
               clear HA
               simp only [spec_l09Step.l1] at H
               by_cases c29 : (x9_3.size : Int) ≤ a0_1
               ·rw [if_pos c29] at H
                have c29b0 : decide ((x9_3.size : Int) ≤ a0_1) = true := decide_eq_true c29
                clear c29
                replace H := Option.bind_eq_some_iff.mp H
                obtain ⟨⟨t230, t233⟩, A300, H⟩ := H
                replace H : (if x9_3.size + (strOfNums y223).size ≤ 9223372036854775807 then ((spec_l01Frac.f k3 (wrap64 (x230000_3 * x7_4)) (wrap64 (x230001_3 * x11_3))).bind fun bt234 => (spec_l09Step.l1 k3 (strOfNums y223) x7_4 x8_2 (x9_3 ++ (strOfNums y223)) (wrap64 (x11_3 + 1)) a0_0 a0_1 l0_2 t218 t219 t230 bt234.1 bt234.2.1)) else (none)) = some (r1, r2, r3) := H
                have A30 := Aside0.mk A300
                clear A300
                by_cases c31 : x9_3.size + (strOfNums y223).size ≤ 9223372036854775807
                ·rw [if_pos c31] at H
                 have c31b0 := eq_true c31
                 have c31b1 : decide (x9_3.size + (strOfNums y223).size ≤ 9223372036854775807) = true := decide_eq_true c31
                 try have c31b2 : (9223372036854775807 < x9_3.size + (strOfNums y223).size) = False := eq_false (Nat.not_lt.2 c31)
                 replace H := Option.bind_eq_some_iff.mp H
                 obtain ⟨⟨t234, t235, t236⟩, A320, H⟩ := H
                 replace H : (spec_l09Step.l1 k3 (strOfNums y223) x7_4 x8_2 (x9_3 ++ (strOfNums y223)) (wrap64 (x11_3 + 1)) a0_0 a0_1 l0_2 t218 t219 t230 t234 t235) = some (r1, r2, r3) := H
                 have A32 := Aside0.mk A320
                 clear A320
                 have H' := Aside0.mk H
                 clear H
                 have hnb33 := NB216_217.out
                 have hnc33 := NB217_216.out
                 have hnb34 := NB216_226.out
                 have hnc34 := NB226_216.out
                 have hnb35 := NB216_229.out
                 have hnc35 := NB229_216.out
                 have hcz36_0 : wr.cell? ⟨gb216, 0, none⟩ = some (.int .i64 a0_0) := zE BK216
                 have hcz36_1 : wr.cell? ⟨gb216, 1, none⟩ = some (.int .i64 a0_1) := zE BK216
                 have hcz36_2 : wr.cell? ⟨gb216, 2, none⟩ = some (.slice (some ad227) l0_2.length c0_2) := zE BK216
                 have hfz36_0 := blk_frozen BK216.out 0
                 have hfz36_1 := blk_frozen BK216.out 1
                 have hfz36_2 := blk_frozen BK216.out 2
                 have hnb37 := NB226_217.out
                 have hnc37 := NB217_226.out
                 have hnb38 := NB226_229.out
                 have hnc38 := NB229_226.out
                 have hcz39_0 : wr.cell? ⟨gb226, 0, none⟩ = some (.int .i64 t218) := zE BK226
                 have hcz39_1 : wr.cell? ⟨gb226, 1, none⟩ = some (.int .i64 t219) := zE BK226
                 have hcz39_2 : wr.cell? ⟨gb226, 2, none⟩ = some (u227002) := zE BK226
                 have hfz39_0 := blk_frozen BK226.out 0
                 have hfz39_1 := blk_frozen BK226.out 1
                 have hfz39_2 := blk_frozen BK226.out 2
                 have hnb40 := NB229_217.out
                 have hnc40 := NB217_229.out
                 have hcz41_0 : wr.cell? ⟨gb229, 0, none⟩ = some (.int .i64 x230000_3) := zE BK229
                 have hcz41_1 : wr.cell? ⟨gb229, 1, none⟩ = some (.int .i64 x230001_3) := zE BK229
                 have hfz41_0 := blk_frozen BK229.out 0
                 have hfz41_1 := blk_frozen BK229.out 1
                 obtain ⟨Ao42, co42, eo42⟩ := Kd.R_slice HO_227002.out
                 subst eo42
                 go_wp2_with (first | ((with_reducible refine gate_callee (f := 93) rfl ?_); refine goesL_ (some 60) rfl rfl Try.func93 (by kernel_rfl) rfl #[.slice Ao42 x227002_3.length co42, .string x9_3, .agg #[.int .i64 x230000_3, .int .i64 x230001_3]] rfl zM ?_; (with_reducible refine (spec_l01Put.calls k3 _ _ x227002_3 x9_3 x230000_3 x230001_3 t230 t233 _ ?side1 ?side2 A30.out).mono ?_); (case side1 => repeat (first | exact (Kd.R_reads' HO_227002.out).2.2 | (with_reducible refine Kd.C_alloc ?_ _) | (with_reducible refine Kd.C_drewN ?_ _) | (with_reducible refine Kd.C_drew ?_))); (case side2 => exact (Kd.R_reads' HO_227002.out).2.1); rintro e w43 ⟨v231, rfl, ho0, hb⟩; refine ⟨_, rfl, ?_⟩; have n0_ := Aside0.mk (Kd.R_elder' zR (Kd.R_base ho0) hb); have n1_ := Aside0.mk (Kd.R_lower (Kd.R_new' ho0 (Kd.R_lt (by (with_reducible repeat (first | apply Kd.R_alloc | apply Kd.R_drewN | apply Kd.R_drew)); exact HO_227002.out))) (below_size zB)); have n2_ := Aside0.mk (blk_below (g := gb216) (o := .cells #[.int .i64 a0_0, .int .i64 a0_1, .slice (some ad227) l0_2.length c0_2] 32 (0, 0)) zK hb); have n3_ := Aside0.mk (blk_below (g := gb217) (o := .cells #[.int .i64 0, .int .i64 0, .slice none 0 0] 32 (0, 0)) zK hb); have n4_ := Aside0.mk (blk_below (g := gb226) (o := .cells #[.int .i64 t218, .int .i64 t219, .slice Ao42 x227002_3.length co42] 32 (0, 0)) zK hb); have n5_ := Aside0.mk (blk_below (g := gb229) (o := .cells #[.int .i64 x230000_3, .int .i64 x230001_3] 27 (0, 0)) zK hb); have n6_ := Aside0.mk (below_step zB hb); clear HO_227002; clear BK216; clear BK217; clear BK226; clear BK229; clear HB; have HO_227002 := n0_; have HO232 := n1_; have BK216 := n2_; have BK217 := n3_; have BK226 := n4_; have BK229 := n5_; have HB := n6_; clear n0_ n1_ n2_ n3_ n4_ n5_ n6_; (try clear hb); (try clear hb2); (try clear hk); (try clear hi); (try clear ho0); obtain ⟨Ao44, co44, eo44⟩ := Kd.R_slice HO232.out; subst eo44; have hcz45_0 : w43.cell? ⟨gb226, 0, none⟩ = some (.int .i64 t218) := zE BK226; have hcz45_1 : w43.cell? ⟨gb226, 1, none⟩ = some (.int .i64 t219) := zE BK226; have hcz45_2 : w43.cell? ⟨gb226, 2, none⟩ = some (.slice Ao42 x227002_3.length co42) := zE BK226; have hfz45_0 := blk_frozen BK226.out 0; have hfz45_1 := blk_frozen BK226.out 1; have hfz45_2 := blk_frozen BK226.out 2; have hcz46_0 : w43.cell? ⟨gb229, 0, none⟩ = some (.int .i64 x230000_3) := zE BK229; have hcz46_1 : w43.cell? ⟨gb229, 1, none⟩ = some (.int .i64 x230001_3) := zE BK229; have hfz46_0 := blk_frozen BK229.out 0; have hfz46_1 := blk_frozen BK229.out 1) | ((with_reducible refine gate_callee (f := 129) rfl ?_); refine goesL_ (some 77) rfl rfl Try.func129 (by kernel_rfl) rfl #[.int .i64 (wrap64 (x230000_3 * x7_4)), .int .i64 (wrap64 (x230001_3 * x11_3))] rfl zM ?_; (with_reducible refine (spec_l01Frac.calls k3 (wrap64 (x230000_3 * x7_4)) (wrap64 (x230001_3 * x11_3)) t234 t235 t236 _ A32.out).mono ?_); rintro e w47 ⟨rfl, hb⟩; refine ⟨_, rfl, ?_⟩; have n0_ := Aside0.mk (Kd.R_below (by (with_reducible repeat (first | apply Kd.R_alloc | apply Kd.R_drewN | apply Kd.R_drew)); exact (Kd.R_mono (Kd.R_far (p := ⟨gb226, 2, none⟩) (Kd.R_types HO_227002.out BK226.out (by decide)) (fun _ hk => hk.2) (.slice Ao44 t230.length co44)) (fun _ h_ => h_.1))) hb); have n1_ := Aside0.mk (Kd.R_below (by (with_reducible repeat (first | apply Kd.R_alloc | apply Kd.R_drewN | apply Kd.R_drew)); exact (Kd.R_mono (Kd.R_far (p := ⟨gb226, 2, none⟩) (Kd.R_types HO232.out BK226.out (by decide)) (fun _ hk => hk.2) (.slice Ao44 t230.length co44)) (fun _ h_ => h_.1))) hb); have n2_ := Aside0.mk (blk_below (g := gb216) (o := .cells #[.int .i64 a0_0, .int .i64 a0_1, .slice (some ad227) l0_2.length c0_2] 32 (0, 0)) (by (with_reducible repeat (first | refine blk_drewN ?_ _ | refine blk_drew ?_ | refine blk_alloc ?_ _)); refine blk_far ?_ NB216_226.out _; exact zK) hb); have n3_ := Aside0.mk (blk_below (g := gb217) (o := .cells #[.int .i64 0, .int .i64 0, .slice none 0 0] 32 (0, 0)) (by (with_reducible repeat (first | refine blk_drewN ?_ _ | refine blk_drew ?_ | refine blk_alloc ?_ _)); refine blk_far ?_ NB217_226.out _; exact zK) hb); have n4_ := Aside0.mk (blk_below (g := gb226) (o := .cells #[.int .i64 t218, .int .i64 t219, .slice Ao44 t230.length co44] 32 (0, 0)) (by (with_reducible repeat (first | refine blk_drewN ?_ _ | refine blk_drew ?_ | refine blk_alloc ?_ _)); refine blk_put (cs := #[.int .i64 t218, .int .i64 t219, .slice Ao42 x227002_3.length co42]) ?_ 2 _ rfl; exact zK) hb); have n5_ := Aside0.mk (blk_below (g := gb229) (o := .cells #[.int .i64 x230000_3, .int .i64 x230001_3] 27 (0, 0)) (by (with_reducible repeat (first | refine blk_drewN ?_ _ | refine blk_drew ?_ | refine blk_alloc ?_ _)); refine blk_far ?_ NB229_226.out _; exact zK) hb); have n6_ := Aside0.mk (below_step zB hb); clear HO_227002; clear HO232; clear BK216; clear BK217; clear BK226; clear BK229; clear HB; have HO_227002 := n0_; have HO232 := n1_; have BK216 := n2_; have BK217 := n3_; have BK226 := n4_; have BK229 := n5_; have HB := n6_; clear n0_ n1_ n2_ n3_ n4_ n5_ n6_; (try clear hb); (try clear hb2); (try clear hk); (try clear hi)) | ((with_reducible refine gate_dst (N := 14) rfl ?_); refine box_event ?hg (N := 14) ?hd (cs := #[.int .i64 0, .int .i64 0]) (t := 27) ?hr ?_; (case hd => rfl); (case hg => rfl); (case hr => first | (go_simp; done) | (go_simp; rfl)); intro gb237 hg w48 hbox hb; have n0_ := Aside0.mk (Kd.R_below (by (with_reducible repeat (first | apply Kd.R_alloc | apply Kd.R_drewN | apply Kd.R_drew)); exact HO_227002.out) hb); have n1_ := Aside0.mk (Kd.R_below (by (with_reducible repeat (first | apply Kd.R_alloc | apply Kd.R_drewN | apply Kd.R_drew)); exact HO232.out) hb); have n2_ := Aside0.mk (blk_below (g := gb216) (o := .cells #[.int .i64 a0_0, .int .i64 a0_1, .slice (some ad227) l0_2.length c0_2] 32 (0, 0)) zK hb); have n3_ := Aside0.mk (blk_below (g := gb217) (o := .cells #[.int .i64 0, .int .i64 0, .slice none 0 0] 32 (0, 0)) zK hb); have n4_ := Aside0.mk (blk_below (g := gb226) (o := .cells #[.int .i64 t218, .int .i64 t219, .slice Ao44 t230.length co44] 32 (0, 0)) zK hb); have n5_ := Aside0.mk (blk_below (g := gb229) (o := .cells #[.int .i64 x230000_3, .int .i64 x230001_3] 27 (0, 0)) zK hb); have n6_ := Aside0.mk (below_step zB hb); have n7_ := Aside0.mk (hbox); have n8_ := Aside0.mk (zG : w.heap.size ≤ gb237); have n9_ := Aside0.mk (zG : w.heap.size ≤ gb237); have n10_ := Aside0.mk ((by rw [hg]; exact Nat.ne_of_lt (blk_lt (g := gb216) (o := .cells #[.int .i64 a0_0, .int .i64 a0_1, .slice (some ad227) l0_2.length c0_2] 32 (0, 0)) zK) : gb216 ≠ gb237)); have n11_ := Aside0.mk ((by rw [hg]; exact Nat.ne_of_gt (blk_lt (g := gb216) (o := .cells #[.int .i64 a0_0, .int .i64 a0_1, .slice (some ad227) l0_2.length c0_2] 32 (0, 0)) zK) : gb237 ≠ gb216)); have n12_ := Aside0.mk ((by rw [hg]; exact Nat.ne_of_lt (blk_lt (g := gb217) (o := .cells #[.int .i64 0, .int .i64 0, .slice none 0 0] 32 (0, 0)) zK) : gb217 ≠ gb237)); have n13_ := Aside0.mk ((by rw [hg]; exact Nat.ne_of_gt (blk_lt (g := gb217) (o := .cells #[.int .i64 0, .int .i64 0, .slice none 0 0] 32 (0, 0)) zK) : gb237 ≠ gb217)); have n14_ := Aside0.mk ((by rw [hg]; exact Nat.ne_of_lt (blk_lt (g := gb226) (o := .cells #[.int .i64 t218, .int .i64 t219, .slice Ao44 t230.length co44] 32 (0, 0)) zK) : gb226 ≠ gb237)); have n15_ := Aside0.mk ((by rw [hg]; exact Nat.ne_of_gt (blk_lt (g := gb226) (o := .cells #[.int .i64 t218, .int .i64 t219, .slice Ao44 t230.length co44] 32 (0, 0)) zK) : gb237 ≠ gb226)); have n16_ := Aside0.mk ((by rw [hg]; exact Nat.ne_of_lt (blk_lt (g := gb229) (o := .cells #[.int .i64 x230000_3, .int .i64 x230001_3] 27 (0, 0)) zK) : gb229 ≠ gb237)); have n17_ := Aside0.mk ((by rw [hg]; exact Nat.ne_of_gt (blk_lt (g := gb229) (o := .cells #[.int .i64 x230000_3, .int .i64 x230001_3] 27 (0, 0)) zK) : gb237 ≠ gb229)); clear HO_227002; clear HO232; clear BK216; clear BK217; clear BK226; clear BK229; clear HB; have HO_227002 := n0_; have HO232 := n1_; have BK216 := n2_; have BK217 := n3_; have BK226 := n4_; have BK229 := n5_; have HB := n6_; have BK237 := n7_; have GW237 := n8_; have GE237 := n9_; have NB216_237 := n10_; have NB237_216 := n11_; have NB217_237 := n12_; have NB237_217 := n13_; have NB226_237 := n14_; have NB237_226 := n15_; have NB229_237 := n16_; have NB237_229 := n17_; clear n0_ n1_ n2_ n3_ n4_ n5_ n6_ n7_ n8_ n9_ n10_ n11_ n12_ n13_ n14_ n15_ n16_ n17_; clear hb hbox hg; have hnb49 := NB237_216.out; have hnc49 := NB216_237.out; have hnb50 := NB237_217.out; have hnc50 := NB217_237.out; have hnb51 := NB237_226.out; have hnc51 := NB226_237.out; have hnb52 := NB237_229.out; have hnc52 := NB229_237.out; have hcz53_0 : w48.cell? ⟨gb237, 0, none⟩ = some (.int .i64 0) := zE BK237; have hcz53_1 : w48.cell? ⟨gb237, 1, none⟩ = some (.int .i64 0) := zE BK237; have hfz53_0 := blk_frozen BK237.out 0; have hfz53_1 := blk_frozen BK237.out 1; have hcz54_0 : w48.cell? ⟨gb229, 0, none⟩ = some (.int .i64 x230000_3) := zE BK229; have hcz54_1 : w48.cell? ⟨gb229, 1, none⟩ = some (.int .i64 x230001_3) := zE BK229; have hfz54_0 := blk_frozen BK229.out 0; have hfz54_1 := blk_frozen BK229.out 1))
                 go_roundg k3
                 case measure => have := HJ4.out; have := HK2.out; have := HK3.out; omega
                 case rel => exact ⟨(x9_3 ++ (strOfNums y223)), (wrap64 (x11_3 + 1)), (t230), (t234), (t235), (.slice Ao44 t230.length co44), (by first | rfl | (simp; done) | (simp [*]; done)), (by first | rfl | (simp; done) | (simp [*]; done)), H', ⟨by have := HJ4.out; have := HK2.out; have := HK3.out; omega⟩, ⟨by (with_reducible repeat (first | apply Kd.R_alloc | apply Kd.R_drewN | apply Kd.R_drew)); exact Kd.R_mono (Kd.R_far (p := ⟨gb229, 1, none⟩) (Kd.R_far (p := ⟨gb229, 0, none⟩) (Kd.R_far (p := ⟨gb237, 1, none⟩) (Kd.R_far (p := ⟨gb237, 0, none⟩) (Kd.R_types (Kd.R_types HO232.out BK237.out (by decide)) BK229.out (by decide)) (fun _ hk => hk.1.2) (.int .i64 t234)) (fun _ hk => hk.1.2) (.int .i64 t235)) (fun _ hk => hk.2) (.int .i64 t234)) (fun _ hk => hk.2) (.int .i64 t235)) (fun _ hk => trivial)⟩, ⟨by (with_reducible repeat (first | refine blk_drewN ?_ _ | refine blk_drew ?_ | refine blk_alloc ?_ _)); refine blk_far ?_ NB216_229.out _; (with_reducible repeat (first | refine blk_drewN ?_ _ | refine blk_drew ?_ | refine blk_alloc ?_ _)); refine blk_far ?_ NB216_229.out _; (with_reducible repeat (first | refine blk_drewN ?_ _ | refine blk_drew ?_ | refine blk_alloc ?_ _)); refine blk_far ?_ NB216_237.out _; (with_reducible repeat (first | refine blk_drewN ?_ _ | refine blk_drew ?_ | refine blk_alloc ?_ _)); refine blk_far ?_ NB216_237.out _; (with_reducible repeat (first | refine blk_drewN ?_ _ | refine blk_drew ?_ | refine blk_alloc ?_ _)); exact BK216.out⟩, ⟨by (with_reducible repeat (first | refine blk_drewN ?_ _ | refine blk_drew ?_ | refine blk_alloc ?_ _)); refine blk_far ?_ NB217_229.out _; (with_reducible repeat (first | refine blk_drewN ?_ _ | refine blk_drew ?_ | refine blk_alloc ?_ _)); refine blk_far ?_ NB217_229.out _; (with_reducible repeat (first | refine blk_drewN ?_ _ | refine blk_drew ?_ | refine blk_alloc ?_ _)); refine blk_far ?_ NB217_237.out _; (with_reducible repeat (first | refine blk_drewN ?_ _ | refine blk_drew ?_ | refine blk_alloc ?_ _)); refine blk_far ?_ NB217_237.out _; (with_reducible repeat (first | refine blk_drewN ?_ _ | refine blk_drew ?_ | refine blk_alloc ?_ _)); exact BK217.out⟩, ⟨by (with_reducible repeat (first | refine blk_drewN ?_ _ | refine blk_drew ?_ | refine blk_alloc ?_ _)); refine blk_far ?_ NB226_229.out _; (with_reducible repeat (first | refine blk_drewN ?_ _ | refine blk_drew ?_ | refine blk_alloc ?_ _)); refine blk_far ?_ NB226_229.out _; (with_reducible repeat (first | refine blk_drewN ?_ _ | refine blk_drew ?_ | refine blk_alloc ?_ _)); refine blk_far ?_ NB226_237.out _; (with_reducible repeat (first | refine blk_drewN ?_ _ | refine blk_drew ?_ | refine blk_alloc ?_ _)); refine blk_far ?_ NB226_237.out _; (with_reducible repeat (first | refine blk_drewN ?_ _ | refine blk_drew ?_ | refine blk_alloc ?_ _)); exact BK226.out⟩, ⟨by (with_reducible repeat (first | refine blk_drewN ?_ _ | refine blk_drew ?_ | refine blk_alloc ?_ _)); refine blk_put (cs := #[.int .i64 t234, .int .i64 x230001_3]) ?_ 1 _ rfl; (with_reducible repeat (first | refine blk_drewN ?_ _ | refine blk_drew ?_ | refine blk_alloc ?_ _)); refine blk_put (cs := #[.int .i64 x230000_3, .int .i64 x230001_3]) ?_ 0 _ rfl; (with_reducible repeat (first | refine blk_drewN ?_ _ | refine blk_drew ?_ | refine blk_alloc ?_ _)); refine blk_far ?_ NB229_237.out _; (with_reducible repeat (first | refine blk_drewN ?_ _ | refine blk_drew ?_ | refine blk_alloc ?_ _)); refine blk_far ?_ NB229_237.out _; (with_reducible repeat (first | refine blk_drewN ?_ _ | refine blk_drew ?_ | refine blk_alloc ?_ _)); exact BK229.out⟩, ⟨zB⟩⟩
                ·rw [if_neg c31] at H
                 exact absurd H (by simp)
               ·rw [if_neg c29] at H
                have c29b0 : decide ((x9_3.size : Int) ≤ a0_1) = false := decide_eq_false c29
                clear c29
                have H' := Aside0.mk H
                clear H
                have hnb55 := NB216_217.out
                have hnc55 := NB217_216.out
                have hnb56 := NB216_226.out
                have hnc56 := NB226_216.out
                have hnb57 := NB216_229.out
                have hnc57 := NB229_216.out
                have hcz58_0 : wr.cell? ⟨gb216, 0, none⟩ = some (.int .i64 a0_0) := zE BK216
                have hcz58_1 : wr.cell? ⟨gb216, 1, none⟩ = some (.int .i64 a0_1) := zE BK216
                have hcz58_2 : wr.cell? ⟨gb216, 2, none⟩ = some (.slice (some ad227) l0_2.length c0_2) := zE BK216
                have hfz58_0 := blk_frozen BK216.out 0
                have hfz58_1 := blk_frozen BK216.out 1
                have hfz58_2 := blk_frozen BK216.out 2
                go_wp2
                go_roundg k3
                case measure => have := HJ4.out; have := HK2.out; have := HK3.out; omega
                case rel => exact ⟨(wrap64 (x8_2 + 1)), (x227002_3), (u227002), (by first | rfl | (simp; done) | (simp [*]; done)), H', ⟨by have := HJ4.out; have := HK2.out; have := HK3.out; omega⟩, ⟨zR⟩, ⟨zK⟩, ⟨zK⟩, ⟨zK⟩, ⟨zB⟩⟩
            ·rw [if_neg c21] at H
             exact absurd H (by simp)
          · rw [if_neg c20] at H
            have c20b0 : decide (x8_2 < (l0_2.length : Int)) = false := decide_eq_false c20
            clear c20
            simp only [Option.some.injEq, Prod.mk.injEq] at H
            obtain ⟨rfl, rfl, rfl⟩ := H
            have hnb59 := NB216_217.out
            have hnc59 := NB217_216.out
            have hnb60 := NB216_226.out
            have hnc60 := NB226_216.out
            have hcz61_0 : wr.cell? ⟨gb216, 0, none⟩ = some (.int .i64 a0_0) := zE BK216
            have hcz61_1 : wr.cell? ⟨gb216, 1, none⟩ = some (.int .i64 a0_1) := zE BK216
            have hcz61_2 : wr.cell? ⟨gb216, 2, none⟩ = some (.slice A0_2 l0_2.length c0_2) := zE BK216
            have hfz61_0 := blk_frozen BK216.out 0
            have hfz61_1 := blk_frozen BK216.out 1
            have hfz61_2 := blk_frozen BK216.out 2
            have hnb62 := NB226_217.out
            have hnc62 := NB217_226.out
            have hcz63_0 : wr.cell? ⟨gb226, 0, none⟩ = some (.int .i64 t218) := zE BK226
            have hcz63_1 : wr.cell? ⟨gb226, 1, none⟩ = some (.int .i64 t219) := zE BK226
            have hcz63_2 : wr.cell? ⟨gb226, 2, none⟩ = some (u227002) := zE BK226
            have hfz63_0 := blk_frozen BK226.out 0
            have hfz63_1 := blk_frozen BK226.out 1
            have hfz63_2 := blk_frozen BK226.out 2
            have hcz64_0 : wr.cell? ⟨gb217, 0, none⟩ = some (.int .i64 0) := zE BK217
            have hcz64_1 : wr.cell? ⟨gb217, 1, none⟩ = some (.int .i64 0) := zE BK217
            have hcz64_2 : wr.cell? ⟨gb217, 2, none⟩ = some (.slice none 0 0) := zE BK217
            have hfz64_0 := blk_frozen BK217.out 0
            have hfz64_1 := blk_frozen BK217.out 1
            have hfz64_2 := blk_frozen BK217.out 2
            obtain ⟨Ao65, co65, eo65⟩ := Kd.R_slice HO_227002.out
            subst eo65
            go_wp2
            refine bodyPost_ret (results_cell_row rfl _ _ gb217 32 #[.int .i64 t218, .int .i64 t219, .slice Ao65 x227002_2.length co65] (0, 0) _ rfl (by (with_reducible repeat (first | refine blk_drewN ?_ _ | refine blk_drew ?_ | refine blk_alloc ?_ _)); refine blk_put (cs := #[.int .i64 t218, .int .i64 t219, .slice none 0 0]) ?_ 2 _ rfl; (with_reducible repeat (first | refine blk_drewN ?_ _ | refine blk_drew ?_ | refine blk_alloc ?_ _)); refine blk_put (cs := #[.int .i64 t218, .int .i64 0, .slice none 0 0]) ?_ 1 _ rfl; (with_reducible repeat (first | refine blk_drewN ?_ _ | refine blk_drew ?_ | refine blk_alloc ?_ _)); refine blk_put (cs := #[.int .i64 0, .int .i64 0, .slice none 0 0]) ?_ 0 _ rfl; exact zK) Try.underlying32 rfl (by kernel_rfl)) rfl ?_
            exact ⟨_, by first | rfl | (simp [errW_none, errW_some] <;> rfl) | (simp only [← hji4]; first | rfl | (simp [errW_none, errW_some] <;> rfl)) | (simp [*, errW_none, errW_some] <;> rfl), by (with_reducible repeat (first | apply Kd.R_alloc | apply Kd.R_drewN | apply Kd.R_drew)); exact Kd.R_mono (Kd.R_far (p := ⟨gb217, 2, none⟩) (Kd.R_far (p := ⟨gb217, 1, none⟩) (Kd.R_far (p := ⟨gb217, 0, none⟩) (Kd.R_types HO_227002.out BK217.out (by decide)) (fun _ hk => hk.2) (.int .i64 t218)) (fun _ hk => hk.2) (.int .i64 t219)) (fun _ hk => hk.2) (.slice Ao65 x227002_2.length co65)) (fun _ hk => trivial), zB⟩

end Go.Proofs.Ytcklefgkbddlhaa.P
