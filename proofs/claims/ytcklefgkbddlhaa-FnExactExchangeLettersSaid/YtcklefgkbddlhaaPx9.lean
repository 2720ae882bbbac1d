/- What a call of each Go function named below comes to is what the plain Lean function beside it says. Made by a program of this session out of the print of the translation; Lean checks it. -/
import Derived.Test.YtcklefgkbddlhaaPx0
import Derived.Test.YtcklefgkbddlhaaPx5
import Derived.Test.YtcklefgkbddlhaaPx6
import Derived.Test.YtcklefgkbddlhaaPx8
namespace Go.Proofs.Ytcklefgkbddlhaa.P
open Go.RowKit Go.Proofs.YtcklefgkbddlhaaW.PrintWords Go.Proofs.YtcklefgkbddlhaaW.PrintLast Go.Proofs.YtcklefgkbddlhaaW.PrintMore
attribute [local go_sem] max2_int min2_int max_two min_two max_three min_three max_four min_four   -- for this text's walks alone
set_option linter.unusedVariables false
set_option linter.unusedSimpArgs false


/-! ### spec_ExchangeLetters: function 41, by hand -/
/-- Which letters were met. -/
def metB (ms : List Int) (v : Int) : Bool := decide (v ∈ ms)
def metC (ms : List Int) : Array Value := #[.bool (metB ms 0), .bool (metB ms 1), .bool (metB ms 2)]
theorem metC_nil : metC [] = #[.bool false, .bool false, .bool false] := rfl
theorem metcell {w : World} {g : Nat} {ms : List Int} {v : Int} (h : w.heap[g]? = some (.cells (metC ms) 110 (0, 0))) (h0 : 0 ≤ v) (h3 : v < 3) : w.cell? ⟨g, v.toNat, none⟩ = some (.bool (metB ms v)) := by
  have hv : v = 0 ∨ v = 1 ∨ v = 2 := by omega
  rcases hv with rfl | rfl | rfl
  · exact (blk_cell h 0).trans rfl
  · exact (blk_cell h 1).trans rfl
  · exact (blk_cell h 2).trans rfl
theorem metput {w : World} {g : Nat} {ms : List Int} {v : Int} (h0 : 0 ≤ v) (h3 : v < 3) (h : w.heap[g]? = some (.cells (metC ms) 110 (0, 0))) : (w.setCell ⟨g, v.toNat, none⟩ (.bool true)).heap[g]? = some (.cells (metC (v :: ms)) 110 (0, 0)) := by
  have hv : v = 0 ∨ v = 1 ∨ v = 2 := by omega
  rcases hv with rfl | rfl | rfl
  · exact blk_put h 0 _ (by simp [metC, metB])
  · exact blk_put h 1 _ (by simp [metC, metB])
  · exact blk_put h 2 _ (by simp [metC, metB])
mutual
def spec_ExchangeLetters.l0 : Nat → List Int → Int → List Int → Int → Int → List (S89) → Option (Int × Int × (List (S89)) × Int)
  | 0, _, _, _, _, _, _ => none
  | k + 1, x1, x7, ms, x250000, x250001, x250002 => if x7 < (x1.length : Int) then (if 0 ≤ x7 then ((spec_l01In.f (rd x1 x7) 0 (wrap64 (x250000 - 1))).bind fun t254 => (if t254 = true then (if 0 ≤ (rd x1 x7) ∧ (rd x1 x7) < 3 then (if metB ms (rd x1 x7) = true then (some (0, 0, ([] : List (S89)), 2)) else (spec_ExchangeLetters.l0 k x1 (wrap64 (x7 + 1)) ((rd x1 x7) :: ms) x250000 x250001 x250002)) else none) else (some (0, 0, ([] : List (S89)), 2)))) else (none)) else ((spec_l01Empty.f x250000 x250001 x250002).bind fun bt257 => (spec_ExchangeLetters.l1 k x1 0 x250000 x250001 x250002 bt257.1 bt257.2.1 bt257.2.2))
def spec_ExchangeLetters.l1 : Nat → List Int → Int → Int → Int → List (S89) → Int → Int → List (S89) → Option (Int × Int × (List (S89)) × Int)
  | 0, _, _, _, _, _, _, _, _ => none
  | k + 1, x1, x9, x250000, x250001, x250002, x263000, x263001, x263002 => if x9 < (x250002.length : Int) then (spec_ExchangeLetters.l2 k x1 x9 (([] : List Int)) 0 x250000 x250001 x250002 x263000 x263001 x263002) else (some (x263000, x263001, x263002, 0))
def spec_ExchangeLetters.l2 : Nat → List Int → Int → List Int → Int → Int → Int → List (S89) → Int → Int → List (S89) → Option (Int × Int × (List (S89)) × Int)
  | 0, _, _, _, _, _, _, _, _, _, _ => none
  | k + 1, x1, x9, x10, x11, x250000, x250001, x250002, x263000, x263001, x263002 => if 0 ≤ x9 then (if x9 < (x250002.length : Int) then (if x11 < (((rd_T89 x250002 x9).f0).size : Int) then (if 0 ≤ x11 then (if 0 ≤ (((bt ((rd_T89 x250002 x9).f0) x11) - 48) % 256) then (if (((bt ((rd_T89 x250002 x9).f0) x11) - 48) % 256) < (x1.length : Int) then (if x10.length < 140737488355328 then (spec_ExchangeLetters.l2 k x1 x9 (x10 ++ [(wrap64 (48 + (rd x1 (((bt ((rd_T89 x250002 x9).f0) x11) - 48) % 256)))) % 256]) (wrap64 (x11 + 1)) x250000 x250001 x250002 x263000 x263001 x263002) else (none)) else (none)) else (none)) else (none)) else ((spec_l01Put.f k x263002 (strOfNums x10) ((rd_T89 x250002 x9).f1.f0) ((rd_T89 x250002 x9).f1.f1)).bind fun bt273 => (spec_ExchangeLetters.l1 k x1 (wrap64 (x9 + 1)) x250000 x250001 x250002 x263000 x263001 bt273.1))) else (none)) else (none)
end
def spec_ExchangeLetters.f (k : Nat) (a0_0 : Int) (a0_1 : Int) (l0_2 : List (S89)) (l1 : List Int) : Option (Int × Int × (List (S89)) × Int) := (spec_l01Is.f k a0_0 a0_1 l0_2).bind fun t251 => (if t251 = true then (if (l1.length : Int) = a0_0 then (spec_ExchangeLetters.l0 k l1 0 ([] : List Int) a0_0 a0_1 l0_2) else (some (0, 0, ([] : List (S89)), 2))) else (some (0, 0, ([] : List (S89)), 1)))
theorem spec_ExchangeLetters.mono_l : ∀ k, (∀ y0 y1 y2 y3 y4 y5, LeO (spec_ExchangeLetters.l0 k y0 y1 y2 y3 y4 y5) (spec_ExchangeLetters.l0 (k + 1) y0 y1 y2 y3 y4 y5)) ∧ (∀ y0 y1 y2 y3 y4 y5 y6 y7, LeO (spec_ExchangeLetters.l1 k y0 y1 y2 y3 y4 y5 y6 y7) (spec_ExchangeLetters.l1 (k + 1) y0 y1 y2 y3 y4 y5 y6 y7)) ∧ (∀ y0 y1 y2 y3 y4 y5 y6 y7 y8 y9, LeO (spec_ExchangeLetters.l2 k y0 y1 y2 y3 y4 y5 y6 y7 y8 y9) (spec_ExchangeLetters.l2 (k + 1) y0 y1 y2 y3 y4 y5 y6 y7 y8 y9))
  | 0 => ⟨fun _ _ _ _ _ _ r h => by simp [spec_ExchangeLetters.l0] at h, fun _ _ _ _ _ _ _ _ r h => by simp [spec_ExchangeLetters.l1] at h, fun _ _ _ _ _ _ _ _ _ _ r h => by simp [spec_ExchangeLetters.l2] at h⟩
  | k + 1 => by
    obtain ⟨ih0, ih1, ih2⟩ := spec_ExchangeLetters.mono_l k
    refine ⟨?_, ?_, ?_⟩
    · intro y0 y1 y2 y3 y4 y5
      unfold spec_ExchangeLetters.l0
      repeat' first
      | (with_reducible exact ih0 _ _ _ _ _ _)
      | (with_reducible exact ih1 _ _ _ _ _ _ _ _)
      | (with_reducible exact ih2 _ _ _ _ _ _ _ _ _ _)
      | (with_reducible exact spec_l01Is.mono _ _ _ _)
      | (with_reducible exact spec_l01Put.mono _ _ _ _ _)
      | (with_reducible exact LeO.refl _)
      | (with_reducible exact LeO.none _)
      | (with_reducible refine LeO.ite ?_ ?_)
      | (with_reducible refine LeO.bind ?_ (fun _ => ?_))
    · intro y0 y1 y2 y3 y4 y5 y6 y7
      unfold spec_ExchangeLetters.l1
      repeat' first
      | (with_reducible exact ih0 _ _ _ _ _ _)
      | (with_reducible exact ih1 _ _ _ _ _ _ _ _)
      | (with_reducible exact ih2 _ _ _ _ _ _ _ _ _ _)
      | (with_reducible exact spec_l01Is.mono _ _ _ _)
      | (with_reducible exact spec_l01Put.mono _ _ _ _ _)
      | (with_reducible exact LeO.refl _)
      | (with_reducible exact LeO.none _)
      | (with_reducible refine LeO.ite ?_ ?_)
      | (with_reducible refine LeO.bind ?_ (fun _ => ?_))
    · intro y0 y1 y2 y3 y4 y5 y6 y7 y8 y9
      unfold spec_ExchangeLetters.l2
      repeat' first
      | (with_reducible exact ih0 _ _ _ _ _ _)
      | (with_reducible exact ih1 _ _ _ _ _ _ _ _)
      | (with_reducible exact ih2 _ _ _ _ _ _ _ _ _ _)
      | (with_reducible exact spec_l01Is.mono _ _ _ _)
      | (with_reducible exact spec_l01Put.mono _ _ _ _ _)
      | (with_reducible exact LeO.refl _)
      | (with_reducible exact LeO.none _)
      | (with_reducible refine LeO.ite ?_ ?_)
      | (with_reducible refine LeO.bind ?_ (fun _ => ?_))
theorem spec_ExchangeLetters.mono : ∀ a0 a1 a2 a3 k, LeO (spec_ExchangeLetters.f k a0 a1 a2 a3) (spec_ExchangeLetters.f (k + 1) a0 a1 a2 a3) := by
  intro a0 a1 a2 a3 k
  obtain ⟨ih0, ih1, ih2⟩ := spec_ExchangeLetters.mono_l k
  unfold spec_ExchangeLetters.f
  repeat' first
      | (with_reducible exact ih0 _ _ _ _ _ _)
      | (with_reducible exact ih1 _ _ _ _ _ _ _ _)
      | (with_reducible exact ih2 _ _ _ _ _ _ _ _ _ _)
      | (with_reducible exact spec_l01Is.mono _ _ _ _)
      | (with_reducible exact spec_l01Put.mono _ _ _ _ _)
      | (with_reducible exact LeO.refl _)
      | (with_reducible exact LeO.none _)
      | (with_reducible refine LeO.ite ?_ ?_)
      | (with_reducible refine LeO.bind ?_ (fun _ => ?_))
def spec_ExchangeLetters.T9 : Bool × List (List Nat × List Nat) := (true, [([], []), ([], []), ([0, 1], [0, 1]), ([2], [2]), ([], []), ([4], [4]), ([5], [5]), ([3, 6], [3, 6]), ([7], [7]), ([8, 7], [8]), ([9], [9]), ([9], [9]), ([10, 11, 9], [9, 10, 11]), ([12, 9], [9, 12]), ([13, 9], [9, 13]), ([14, 9], [9, 14]), ([9, 15], [9, 15])])
def spec_ExchangeLetters.B9 : List Nat := [0, 0, 3, 7, 0, 16, 48, 127, 255, 511, 1023, 1023, 4095, 8191, 16383, 32767, 65535]
theorem spec_ExchangeLetters.tab9 : rtab .any (opsOf Try.f41 9) = spec_ExchangeLetters.T9 := by kernel_rfl
theorem spec_ExchangeLetters.bits9 : waitsOk spec_ExchangeLetters.T9.2 spec_ExchangeLetters.B9 = true := by kernel_rfl
def spec_ExchangeLetters.T21 : Bool × List (List Nat × List Nat) := (true, [([], []), ([0], [0]), ([], []), ([2], [2]), ([], []), ([4], [4]), ([], []), ([5, 6], [5, 6]), ([7], [7]), ([8], [8]), ([1, 3, 9], [1, 3, 9]), ([10], [10]), ([11], [11]), ([11], [11]), ([12, 10, 0, 1, 2, 3, 4, 5, 6, 7, 8, 9, 10, 11, 12], [12]), ([13, 14, 0, 1, 2, 3, 4, 5, 6, 7, 8, 9, 10, 11, 12, 13, 14], [13])])
def spec_ExchangeLetters.B21 : List Nat := [0, 1, 0, 4, 0, 16, 0, 112, 240, 496, 1023, 2047, 4095, 4095, 8191, 32767]
theorem spec_ExchangeLetters.tab21 : rtab .any (opsOf Try.f41 21) = spec_ExchangeLetters.T21 := by kernel_rfl
theorem spec_ExchangeLetters.bits21 : waitsOk spec_ExchangeLetters.T21.2 spec_ExchangeLetters.B21 = true := by kernel_rfl
set_option maxHeartbeats 8000000 in
set_option maxRecDepth 100000 in
theorem spec_ExchangeLetters.calls (k : Nat) (a0_0 : Int) (a0_1 : Int) (A0_2 : Option Addr) (c0_2 : Nat) (l0_2 : List (S89)) (A1 : Option Addr) (c1 : Nat) (l1 : List Int) (r1 : Int) (r2 : Int) (r3 : List (S89)) (r4 : Int) (w : World) (hr0_2 : Kd.C k89 w A0_2 l0_2.length l0_2) (hc0_2 : l0_2.length ≤ c0_2) (hr1 : Kd.C (Kd.int .i64) w A1 l1.length l1) (hc1 : l1.length ≤ c1) (h : spec_ExchangeLetters.f k a0_0 a0_1 l0_2 l1 = some (r1, r2, r3, r4)) :
    Calls Try.prog 41 #[.agg #[.int .i64 a0_0, .int .i64 a0_1, .slice A0_2 l0_2.length c0_2], .slice A1 l1.length c1] w fun e w' => ∃ v2_ : Value, e = .returned (.tuple #[.agg #[.int .i64 r1, .int .i64 r2, v2_], .int .i64 r4]) ∧ Kd.R k89 89 w' w.heap.size (fun _ => True) v2_ r3 ∧ Below w.heap.size w w' := by
  have hu32 := Try.underlying32
  have hu27 := Try.underlying27
  have hu110 := Try.underlying110
  have HR0_2 := Aside0.mk hr0_2
  have HC0_2 := Aside0.mk hc0_2
  clear hr0_2 hc0_2
  have HR1 := Aside0.mk hr1
  have HC1 := Aside0.mk hc1
  clear hr1 hc1
  have HB := Aside0.mk (Below.refl w.heap.size w)
  have H : ((spec_l01Is.f k a0_0 a0_1 l0_2).bind fun t251 => (if t251 = true then (if (l1.length : Int) = a0_0 then (spec_ExchangeLetters.l0 k l1 0 ([] : List Int) a0_0 a0_1 l0_2) else (some (0, 0, ([] : List (S89)), 2))) else (some (0, 0, ([] : List (S89)), 1)))) = some (r1, r2, r3, r4) := h
  clear h
  replace H := Option.bind_eq_some_iff.mp H
  obtain ⟨t251, A30, H⟩ := H
  replace H : (if t251 = true then (if (l1.length : Int) = a0_0 then (spec_ExchangeLetters.l0 k l1 0 ([] : List Int) a0_0 a0_1 l0_2) else (some (0, 0, ([] : List (S89)), 2))) else (some (0, 0, ([] : List (S89)), 1))) = some (r1, r2, r3, r4) := H
  have A3 := Aside0.mk A30
  clear A30
  by_cases c4 : t251 = true
  · subst c4
    have H1 : (if (l1.length : Int) = a0_0 then (spec_ExchangeLetters.l0 k l1 0 ([] : List Int) a0_0 a0_1 l0_2) else (some (0, 0, ([] : List (S89)), 2))) = some (r1, r2, r3, r4) := by rw [if_pos rfl] at H; exact H
    clear H
    have H := H1
    clear H1
    by_cases c5 : (l1.length : Int) = a0_0
    · rw [if_pos c5] at H
      have c5b0 : ((l1.length : Int) == a0_0) = true := beq_iff_eq.mpr c5
      have c5b1 : ((l1.length : Int) != a0_0) = false := bne_eq_false_iff_eq.mpr c5
      clear c5
      have H' := Aside0.mk H
      clear H
      go_enter Try.func41, Try.ntmps41
      go_wp2_with (first | ((with_reducible refine gate_dst (N := 2) rfl ?_); refine box_event ?hg (N := 2) ?hd (cs := #[.int .i64 a0_0, .int .i64 a0_1, .slice A0_2 l0_2.length c0_2]) (t := 32) ?hr ?_; (case hd => rfl); (case hg => rfl); (case hr => first | (go_simp; done) | (go_simp; rfl)); intro gb249 hg w6 hbox hb; have n0_ := Aside0.mk (below_step zB hb); have n1_ := Aside0.mk (hbox); have n2_ := Aside0.mk (zG : w.heap.size ≤ gb249); have n3_ := Aside0.mk (zG : w.heap.size ≤ gb249); clear HB; have HB := n0_; have BK249 := n1_; have GW249 := n2_; have GE249 := n3_; clear n0_ n1_ n2_ n3_; clear hb hbox hg) | ((with_reducible refine gate_dst (N := 4) rfl ?_); refine box_event ?hg (N := 4) ?hd (cs := #[.int .i64 0, .int .i64 0, .slice none 0 0]) (t := 32) ?hr ?_; (case hd => rfl); (case hg => rfl); (case hr => first | (go_simp; done) | (go_simp; rfl)); intro gb250 hg w7 hbox hb; have n0_ := Aside0.mk (blk_below (g := gb249) (o := .cells #[.int .i64 a0_0, .int .i64 a0_1, .slice A0_2 l0_2.length c0_2] 32 (0, 0)) zK hb); have n1_ := Aside0.mk (below_step zB hb); have n2_ := Aside0.mk (hbox); have n3_ := Aside0.mk (zG : w.heap.size ≤ gb250); have n4_ := Aside0.mk (zG : w.heap.size ≤ gb250); have n5_ := Aside0.mk ((by rw [hg]; exact Nat.ne_of_lt (blk_lt (g := gb249) (o := .cells #[.int .i64 a0_0, .int .i64 a0_1, .slice A0_2 l0_2.length c0_2] 32 (0, 0)) zK) : gb249 ≠ gb250)); have n6_ := Aside0.mk ((by rw [hg]; exact Nat.ne_of_gt (blk_lt (g := gb249) (o := .cells #[.int .i64 a0_0, .int .i64 a0_1, .slice A0_2 l0_2.length c0_2] 32 (0, 0)) zK) : gb250 ≠ gb249)); clear BK249; clear HB; have BK249 := n0_; have HB := n1_; have BK250 := n2_; have GW250 := n3_; have GE250 := n4_; have NB249_250 := n5_; have NB250_249 := n6_; clear n0_ n1_ n2_ n3_ n4_ n5_ n6_; clear hb hbox hg; have hnb8 := NB249_250.out; have hnc8 := NB250_249.out; have hcz9_0 : w7.cell? ⟨gb249, 0, none⟩ = some (.int .i64 a0_0) := zE BK249; have hcz9_1 : w7.cell? ⟨gb249, 1, none⟩ = some (.int .i64 a0_1) := zE BK249; have hcz9_2 : w7.cell? ⟨gb249, 2, none⟩ = some (.slice A0_2 l0_2.length c0_2) := zE BK249; have hfz9_0 := blk_frozen BK249.out 0; have hfz9_1 := blk_frozen BK249.out 1; have hfz9_2 := blk_frozen BK249.out 2) | ((with_reducible refine gate_callee (f := 52) rfl ?_); refine goesL_ (some 15) rfl rfl Try.func52 (by kernel_rfl) rfl #[.agg #[.int .i64 a0_0, .int .i64 a0_1, .slice A0_2 l0_2.length c0_2]] rfl zM ?_; (with_reducible refine (spec_l01Is.calls k a0_0 a0_1 _ _ l0_2 true _ ?side1 ?side2 A3.out).mono ?_); (case side1 => repeat (first | exact (Kd.C_below HR0_2.out HB.out) | (with_reducible refine Kd.C_alloc ?_ _) | (with_reducible refine Kd.C_drewN ?_ _) | (with_reducible refine Kd.C_drew ?_))); (case side2 => exact HC0_2.out); rintro e w10 ⟨rfl, hb⟩; refine ⟨_, rfl, ?_⟩; have n0_ := Aside0.mk (blk_below (g := gb249) (o := .cells #[.int .i64 a0_0, .int .i64 a0_1, .slice A0_2 l0_2.length c0_2] 32 (0, 0)) zK hb); have n1_ := Aside0.mk (blk_below (g := gb250) (o := .cells #[.int .i64 0, .int .i64 0, .slice none 0 0] 32 (0, 0)) zK hb); have n2_ := Aside0.mk (below_step zB hb); clear BK249; clear BK250; clear HB; have BK249 := n0_; have BK250 := n1_; have HB := n2_; clear n0_ n1_ n2_; (try clear hb); (try clear hb2); (try clear hk); (try clear hi)) | ((with_reducible refine gate_dst (N := 6) rfl ?_); refine box_event ?hg (N := 6) ?hd (cs := #[.bool false, .bool false, .bool false]) (t := 110) ?hr ?_; (case hd => rfl); (case hg => rfl); (case hr => first | (go_simp; done) | (go_simp; rfl)); intro gb252 hg w11 hbox hb; have n0_ := Aside0.mk (blk_below (g := gb249) (o := .cells #[.int .i64 a0_0, .int .i64 a0_1, .slice A0_2 l0_2.length c0_2] 32 (0, 0)) zK hb); have n1_ := Aside0.mk (blk_below (g := gb250) (o := .cells #[.int .i64 0, .int .i64 0, .slice none 0 0] 32 (0, 0)) zK hb); have n2_ := Aside0.mk (below_step zB hb); have n3_ := Aside0.mk (hbox); have n4_ := Aside0.mk (zG : w.heap.size ≤ gb252); have n5_ := Aside0.mk (zG : w.heap.size ≤ gb252); have n6_ := Aside0.mk ((by rw [hg]; exact Nat.ne_of_lt (blk_lt (g := gb249) (o := .cells #[.int .i64 a0_0, .int .i64 a0_1, .slice A0_2 l0_2.length c0_2] 32 (0, 0)) zK) : gb249 ≠ gb252)); have n7_ := Aside0.mk ((by rw [hg]; exact Nat.ne_of_gt (blk_lt (g := gb249) (o := .cells #[.int .i64 a0_0, .int .i64 a0_1, .slice A0_2 l0_2.length c0_2] 32 (0, 0)) zK) : gb252 ≠ gb249)); have n8_ := Aside0.mk ((by rw [hg]; exact Nat.ne_of_lt (blk_lt (g := gb250) (o := .cells #[.int .i64 0, .int .i64 0, .slice none 0 0] 32 (0, 0)) zK) : gb250 ≠ gb252)); have n9_ := Aside0.mk ((by rw [hg]; exact Nat.ne_of_gt (blk_lt (g := gb250) (o := .cells #[.int .i64 0, .int .i64 0, .slice none 0 0] 32 (0, 0)) zK) : gb252 ≠ gb250)); clear BK249; clear BK250; clear HB; have BK249 := n0_; have BK250 := n1_; have HB := n2_; have BK252 := n3_; have GW252 := n4_; have GE252 := n5_; have NB249_252 := n6_; have NB252_249 := n7_; have NB250_252 := n8_; have NB252_250 := n9_; clear n0_ n1_ n2_ n3_ n4_ n5_ n6_ n7_ n8_ n9_; clear hb hbox hg; have hnb12 := NB252_249.out; have hnc12 := NB249_252.out; have hnb13 := NB252_250.out; have hnc13 := NB250_252.out; have hcz14_0 : w11.cell? ⟨gb252, 0, none⟩ = some (.bool false) := zE BK252; have hcz14_1 : w11.cell? ⟨gb252, 1, none⟩ = some (.bool false) := zE BK252; have hcz14_2 : w11.cell? ⟨gb252, 2, none⟩ = some (.bool false) := zE BK252; have hfz14_0 := blk_frozen BK252.out 0; have hfz14_1 := blk_frozen BK252.out 1; have hfz14_2 := blk_frozen BK252.out 2; have hcz15_0 : w11.cell? ⟨gb249, 0, none⟩ = some (.int .i64 a0_0) := zE BK249; have hcz15_1 : w11.cell? ⟨gb249, 1, none⟩ = some (.int .i64 a0_1) := zE BK249; have hcz15_2 : w11.cell? ⟨gb249, 2, none⟩ = some (.slice A0_2 l0_2.length c0_2) := zE BK249; have hfz15_0 := blk_frozen BK249.out 0; have hfz15_1 := blk_frozen BK249.out 1; have hfz15_2 := blk_frozen BK249.out 2))
      go_loopg [7] k (fun kq v7 w' => ∃ (x7_1 : Int) (x251000_1 : Int) (x251001_1 : Int) (x253000_1 : List Int), v7 = .int .i64 x7_1 ∧ Aside0 (spec_ExchangeLetters.l0 kq l1 x7_1 x253000_1 a0_0 a0_1 l0_2 = some (r1, r2, r3, r4)) ∧ Aside0 (kq ≤ k) ∧ Aside0 (w'.heap[gb249]? = some (.cells #[.int .i64 a0_0, .int .i64 a0_1, (.slice A0_2 l0_2.length c0_2)] 32 (0, 0))) ∧ Aside0 (w'.heap[gb250]? = some (.cells #[.int .i64 x251000_1, .int .i64 x251001_1, (.slice none 0 0)] 32 (0, 0))) ∧ Aside0 (w'.heap[gb252]? = some (.cells (metC x253000_1) 110 (0, 0))) ∧ Aside0 (Below w.heap.size w w'))
      case atStart => exact ⟨(0), (0), (0), ([]), (by first | rfl | (simp; done) | (simp [*]; done)), H', ⟨Nat.le_refl _⟩, ⟨by (with_reducible repeat (first | refine blk_drewN ?_ _ | refine blk_drew ?_ | refine blk_alloc ?_ _)); refine blk_far ?_ NB249_252.out _; (with_reducible repeat (first | refine blk_drewN ?_ _ | refine blk_drew ?_ | refine blk_alloc ?_ _)); refine blk_far ?_ NB249_252.out _; (with_reducible repeat (first | refine blk_drewN ?_ _ | refine blk_drew ?_ | refine blk_alloc ?_ _)); refine blk_far ?_ NB249_252.out _; (with_reducible repeat (first | refine blk_drewN ?_ _ | refine blk_drew ?_ | refine blk_alloc ?_ _)); exact BK249.out⟩, ⟨by (with_reducible repeat (first | refine blk_drewN ?_ _ | refine blk_drew ?_ | refine blk_alloc ?_ _)); refine blk_far ?_ NB250_252.out _; (with_reducible repeat (first | refine blk_drewN ?_ _ | refine blk_drew ?_ | refine blk_alloc ?_ _)); refine blk_far ?_ NB250_252.out _; (with_reducible repeat (first | refine blk_drewN ?_ _ | refine blk_drew ?_ | refine blk_alloc ?_ _)); refine blk_far ?_ NB250_252.out _; (with_reducible repeat (first | refine blk_drewN ?_ _ | refine blk_drew ?_ | refine blk_alloc ?_ _)); exact BK250.out⟩, ⟨by (with_reducible repeat (first | refine blk_drewN ?_ _ | refine blk_drew ?_ | refine blk_alloc ?_ _)); rw [metC_nil]; refine blk_put (cs := #[.bool false, .bool false, .bool false]) ?_ 2 _ rfl; (with_reducible repeat (first | refine blk_drewN ?_ _ | refine blk_drew ?_ | refine blk_alloc ?_ _)); refine blk_put (cs := #[.bool false, .bool false, .bool false]) ?_ 1 _ rfl; (with_reducible repeat (first | refine blk_drewN ?_ _ | refine blk_drew ?_ | refine blk_alloc ?_ _)); refine blk_put (cs := #[.bool false, .bool false, .bool false]) ?_ 0 _ rfl; (with_reducible repeat (first | refine blk_drewN ?_ _ | refine blk_drew ?_ | refine blk_alloc ?_ _)); exact BK252.out⟩, ⟨zB⟩⟩
      case round =>
        clear H'
        obtain ⟨x7_1, x251000_1, x251001_1, x253000_1, rfl, HA, HK1, BK249, BK250, BK252, HB⟩ := hrel
        cases gk with
        | zero => exact absurd HA.out (by simp [spec_ExchangeLetters.l0])
        | succ k1 =>
          have H := HA.out
          clear HA
          simp only [spec_ExchangeLetters.l0] at H
          by_cases c16 : x7_1 < (l1.length : Int)
          · rw [if_pos c16] at H
            have c16b0 : decide (x7_1 < (l1.length : Int)) = true := decide_eq_true c16
            clear c16
            by_cases c17 : 0 ≤ x7_1
            ·rw [if_pos c17] at H
             have c17b0 : decide (0 ≤ x7_1) = true := decide_eq_true c17
             clear c17
             replace H := Option.bind_eq_some_iff.mp H
             obtain ⟨t254, A180, H⟩ := H
             replace H : (if t254 = true then (if 0 ≤ (rd l1 x7_1) ∧ (rd l1 x7_1) < 3 then (if metB x253000_1 (rd l1 x7_1) = true then (some (0, 0, ([] : List (S89)), 2)) else (spec_ExchangeLetters.l0 k1 l1 (wrap64 (x7_1 + 1)) ((rd l1 x7_1) :: x253000_1) a0_0 a0_1 l0_2)) else none) else (some (0, 0, ([] : List (S89)), 2))) = some (r1, r2, r3, r4) := H
             have A18 := Aside0.mk A180
             clear A180
             by_cases c19 : t254 = true
             ·subst c19
              have H1 : (if 0 ≤ (rd l1 x7_1) ∧ (rd l1 x7_1) < 3 then (if metB x253000_1 (rd l1 x7_1) = true then (some (0, 0, ([] : List (S89)), 2)) else (spec_ExchangeLetters.l0 k1 l1 (wrap64 (x7_1 + 1)) ((rd l1 x7_1) :: x253000_1) a0_0 a0_1 l0_2)) else none) = some (r1, r2, r3, r4) := by rw [if_pos rfl] at H; exact H
              clear H
              have H := H1
              clear H1
              have cv : 0 ≤ (rd l1 x7_1) ∧ (rd l1 x7_1) < 3 := by
               by_cases cv : (0 ≤ (rd l1 x7_1) ∧ (rd l1 x7_1) < 3)
               ·exact cv
               ·rw [if_neg cv] at H; exact absurd H (by simp)
              rw [if_pos cv] at H
              have cv1 : (0 ≤ (rd l1 x7_1)) = True := eq_true cv.1
              have cv2 : ((rd l1 x7_1) < 3) = True := eq_true cv.2
              by_cases c20 : metB x253000_1 (rd l1 x7_1) = true
              ·rw [if_pos c20] at H
               have c20b0 : metB x253000_1 (rd l1 x7_1) = true := c20
               clear c20
               simp only [Option.some.injEq, Prod.mk.injEq] at H
               obtain ⟨rfl, rfl, rfl, rfl⟩ := H
               try go_wp2
               have n0_ := Aside0.mk (blk_drew BK249.out)
               have n1_ := Aside0.mk (blk_drew BK250.out)
               have n2_ := Aside0.mk (blk_drew BK252.out)
               have n3_ := Aside0.mk (below_drew1 HB.out)
               clear BK249
               clear BK250
               clear BK252
               clear HB
               have BK249 := n0_
               have BK250 := n1_
               have BK252 := n2_
               have HB := n3_
               clear n0_ n1_ n2_ n3_
               have p253 : 0 ≤ (x7_1 : Int) := zD
               have q253 : x7_1 < (l1.length : Int) := zD
               obtain ⟨ad253, e253, hx253_0⟩ := Kd.at_int HR1.out x7_1 p253 q253
               have hw253_0 := hx253_0
               cases e253
               replace hx253_0 := zH HB hx253_0
               replace p253 := eq_true p253
               replace q253 := eq_true q253
               have p255 : 0 ≤ (x7_1 : Int) := zD
               have q255 : x7_1 < (l1.length : Int) := zD
               obtain ⟨ad255, e255, hx255_0⟩ := Kd.at_int HR1.out x7_1 p255 q255
               have hw255_0 := hx255_0
               obtain rfl : ad253 = ad255 := (by injection e255)
               replace hx255_0 := zH HB hx255_0
               replace p255 := eq_true p255
               replace q255 := eq_true q255
               refine start_ (n := 17) (S := fun w' => w'.cell? ⟨gb249, 0, none⟩ = some (.int .i64 a0_0) ∧ w'.cell? ⟨gb249, 1, none⟩ = some (.int .i64 a0_1) ∧ w'.cell? ⟨gb249, 2, none⟩ = some (.slice A0_2 l0_2.length c0_2) ∧ w'.cell? (ad253.add (x7_1).toNat) = some (.int .i64 (rd l1 x7_1)) ∧ w'.cell? (ad253.add (x7_1).toNat) = some (.int .i64 (rd l1 x7_1)) ∧ w'.cell? ⟨gb252, (rd l1 x7_1).toNat, none⟩ = some (.bool (metB x253000_1 (rd l1 x7_1)))) (ds := []) #[false, false, false, false, false, false, false, false, false, false, false, false, false, false, false, false, false] (by kernel_rfl) rfl rfl ⟨(blk_cell BK249.out 0).trans rfl, (blk_cell BK249.out 1).trans rfl, (blk_cell BK249.out 2).trans rfl, (zH HB hw253_0 :), (zH HB hw255_0 :), metcell BK252.out cv.1 cv.2⟩ (fun hHeld => ?_); refine with_tabW spec_ExchangeLetters.tab9 spec_ExchangeLetters.bits9 (fun HT_ HW_ => ?_)
               generalize wr.drew = w21 at BK249 BK250 BK252 HB hx253_0 hx255_0 hHeld ⊢
               refine zP 0 (N := some 31) (h := ?_)
               refine zP 1 (N := some 32) (h := ?_)
               refine zP 2 (N := some 33) (h := ?_)
               refine zP 4 (N := some 35) (h := ?_)
               refine zT 3 hHeld (N := some 34) (h := ?_)
               refine zT 5 hHeld (N := some 36) (h := ?_)
               refine zP 6 (N := some 37) (h := ?_)
               refine one_ (i := 7) (N := some 38) #[true, true, true, true, true, true, true, true, false, false, false, false, false, false, false, false, false] rfl rfl (one_of HT_.out (by kernel_rfl)) (by decide) (fun K hK => ?_)
               refine goes_ Try.func92 (by kernel_rfl) rfl #[.int .i64 (rd l1 x7_1), .int .i64 0, .int .i64 (wrap64 (a0_0 - 1))] (by rfl) rfl rfl zM ?_
               with_reducible refine (spec_l01In.calls (rd l1 x7_1) 0 (wrap64 (a0_0 - 1)) true _ A18.out).mono ?_
               rintro e w' ⟨rfl, ⟨nd, rfl⟩⟩
               refine ⟨_, rfl, ?_⟩
               refine hK.out _ _ ⟨(blk_cell BK249.out 0).trans rfl, (blk_cell BK249.out 1).trans rfl, (blk_cell BK249.out 2).trans rfl, (zH HB hw253_0 :), (zH HB hw255_0 :), metcell BK252.out cv.1 cv.2⟩ (fun hHeld => ?_)
               clear hK K
               refine norm_ (a' := ?_) ?_ ?_
               rotate_left
               ·show Act.put _ (some 38) _ = _
                simp only [Act.put, List.setIfInBounds_toArray, List.set_cons_zero, List.set_cons_succ, i64_w, i32_w]
                rfl
               refine zP 8 (N := some 39) (h := ?_)
               refine zP 9 (N := some 40) (h := ?_)
               refine zP 10 (N := some 41) (h := ?_)
               refine zP 11 (N := some 42) (h := ?_)
               refine zP 12 (N := some 43) (h := ?_)
               refine zT 13 hHeld (N := some 44) (h := ?_)
               refine zP 14 (N := some 45) (h := ?_)
               refine zT 15 hHeld (N := some 46) (h := ?_)
               refine zP 16 (N := some 47) (h := ?_)
               refine done_ (done_of HT_.out (by kernel_rfl)) ?_
               have hnb22 := NB250_249.out
               have hnc22 := NB249_250.out
               have hnb23 := NB250_252.out
               have hnc23 := NB252_250.out
               have hcz24_0 : w21.cell? ⟨gb250, 0, none⟩ = some (.int .i64 x251000_1) := zE BK250
               have hcz24_1 : w21.cell? ⟨gb250, 1, none⟩ = some (.int .i64 x251001_1) := zE BK250
               have hcz24_2 : w21.cell? ⟨gb250, 2, none⟩ = some (.slice none 0 0) := zE BK250
               have hfz24_0 := blk_frozen BK250.out 0
               have hfz24_1 := blk_frozen BK250.out 1
               have hfz24_2 := blk_frozen BK250.out 2
               try go_wp2
               refine bodyPost_ret (results_ct rfl _ _ gb250 32 #[.int .i64 0, .int .i64 0, .slice none 0 0] (0, 0) _ rfl (by (with_reducible repeat (first | refine blk_drewN ?_ _ | refine blk_drew ?_ | refine blk_alloc ?_ _)); refine blk_put (cs := #[.int .i64 0, .int .i64 0, .slice none 0 0]) ?_ 2 _ rfl; (with_reducible repeat (first | refine blk_drewN ?_ _ | refine blk_drew ?_ | refine blk_alloc ?_ _)); refine blk_put (cs := #[.int .i64 0, .int .i64 x251001_1, .slice none 0 0]) ?_ 1 _ rfl; (with_reducible repeat (first | refine blk_drewN ?_ _ | refine blk_drew ?_ | refine blk_alloc ?_ _)); refine blk_put (cs := #[.int .i64 x251000_1, .int .i64 x251001_1, .slice none 0 0]) ?_ 0 _ rfl; exact zK) Try.underlying32 rfl (by kernel_rfl)) rfl ?_
               exact ⟨_, by first | rfl | (simp [errW_none, errW_some] <;> rfl) | (simp [*, errW_none, errW_some] <;> rfl), by first | exact Kd.R_nil _ _ _ _ _ | exact Kd.N_nil _ _ _ _ _ | exact Kd.V_nil _ _ _ _ _ | exact Kd.Q_nil _ _ _ _ _ | exact Kd.S_nil _ _ _ _ _, zB⟩
              ·rw [if_neg c20] at H
               have c20b0 : metB x253000_1 (rd l1 x7_1) = false := Bool.eq_false_iff.mpr c20
               clear c20
               have H' := Aside0.mk H
               clear H
               try go_wp2
               have n0_ := Aside0.mk (blk_drew BK249.out)
               have n1_ := Aside0.mk (blk_drew BK250.out)
               have n2_ := Aside0.mk (blk_drew BK252.out)
               have n3_ := Aside0.mk (below_drew1 HB.out)
               clear BK249
               clear BK250
               clear BK252
               clear HB
               have BK249 := n0_
               have BK250 := n1_
               have BK252 := n2_
               have HB := n3_
               clear n0_ n1_ n2_ n3_
               have p253 : 0 ≤ (x7_1 : Int) := zD
               have q253 : x7_1 < (l1.length : Int) := zD
               obtain ⟨ad253, e253, hx253_0⟩ := Kd.at_int HR1.out x7_1 p253 q253
               have hw253_0 := hx253_0
               cases e253
               replace hx253_0 := zH HB hx253_0
               replace p253 := eq_true p253
               replace q253 := eq_true q253
               have p255 : 0 ≤ (x7_1 : Int) := zD
               have q255 : x7_1 < (l1.length : Int) := zD
               obtain ⟨ad255, e255, hx255_0⟩ := Kd.at_int HR1.out x7_1 p255 q255
               have hw255_0 := hx255_0
               obtain rfl : ad253 = ad255 := (by injection e255)
               replace hx255_0 := zH HB hx255_0
               replace p255 := eq_true p255
               replace q255 := eq_true q255
               refine start_ (n := 17) (S := fun w' => w'.cell? ⟨gb249, 0, none⟩ = some (.int .i64 a0_0) ∧ w'.cell? ⟨gb249, 1, none⟩ = some (.int .i64 a0_1) ∧ w'.cell? ⟨gb249, 2, none⟩ = some (.slice A0_2 l0_2.length c0_2) ∧ w'.cell? (ad253.add (x7_1).toNat) = some (.int .i64 (rd l1 x7_1)) ∧ w'.cell? (ad253.add (x7_1).toNat) = some (.int .i64 (rd l1 x7_1)) ∧ w'.cell? ⟨gb252, (rd l1 x7_1).toNat, none⟩ = some (.bool (metB x253000_1 (rd l1 x7_1)))) (ds := []) #[false, false, false, false, false, false, false, false, false, false, false, false, false, false, false, false, false] (by kernel_rfl) rfl rfl ⟨(blk_cell BK249.out 0).trans rfl, (blk_cell BK249.out 1).trans rfl, (blk_cell BK249.out 2).trans rfl, (zH HB hw253_0 :), (zH HB hw255_0 :), metcell BK252.out cv.1 cv.2⟩ (fun hHeld => ?_); refine with_tabW spec_ExchangeLetters.tab9 spec_ExchangeLetters.bits9 (fun HT_ HW_ => ?_)
               generalize wr.drew = w25 at BK249 BK250 BK252 HB hx253_0 hx255_0 hHeld ⊢
               refine zP 0 (N := some 31) (h := ?_)
               refine zP 1 (N := some 32) (h := ?_)
               refine zP 2 (N := some 33) (h := ?_)
               refine zP 4 (N := some 35) (h := ?_)
               refine zT 3 hHeld (N := some 34) (h := ?_)
               refine zT 5 hHeld (N := some 36) (h := ?_)
               refine zP 6 (N := some 37) (h := ?_)
               refine one_ (i := 7) (N := some 38) #[true, true, true, true, true, true, true, true, false, false, false, false, false, false, false, false, false] rfl rfl (one_of HT_.out (by kernel_rfl)) (by decide) (fun K hK => ?_)
               refine goes_ Try.func92 (by kernel_rfl) rfl #[.int .i64 (rd l1 x7_1), .int .i64 0, .int .i64 (wrap64 (a0_0 - 1))] (by rfl) rfl rfl zM ?_
               with_reducible refine (spec_l01In.calls (rd l1 x7_1) 0 (wrap64 (a0_0 - 1)) true _ A18.out).mono ?_
               rintro e w' ⟨rfl, ⟨nd, rfl⟩⟩
               refine ⟨_, rfl, ?_⟩
               refine hK.out _ _ ⟨(blk_cell BK249.out 0).trans rfl, (blk_cell BK249.out 1).trans rfl, (blk_cell BK249.out 2).trans rfl, (zH HB hw253_0 :), (zH HB hw255_0 :), metcell BK252.out cv.1 cv.2⟩ (fun hHeld => ?_)
               clear hK K
               refine norm_ (a' := ?_) ?_ ?_
               rotate_left
               ·show Act.put _ (some 38) _ = _
                simp only [Act.put, List.setIfInBounds_toArray, List.set_cons_zero, List.set_cons_succ, i64_w, i32_w]
                rfl
               refine zP 8 (N := some 39) (h := ?_)
               refine zP 9 (N := some 40) (h := ?_)
               refine zP 10 (N := some 41) (h := ?_)
               refine zP 11 (N := some 42) (h := ?_)
               refine zP 12 (N := some 43) (h := ?_)
               refine zT 13 hHeld (N := some 44) (h := ?_)
               refine zP 14 (N := some 45) (h := ?_)
               refine zT 15 hHeld (N := some 46) (h := ?_)
               refine zP 16 (N := some 47) (h := ?_)
               refine done_ (done_of HT_.out (by kernel_rfl)) ?_
               have p256 : 0 ≤ (x7_1 : Int) := zD
               have q256 : x7_1 < (l1.length : Int) := zD
               obtain ⟨ad256, e256, hx256_0⟩ := Kd.at_int HR1.out x7_1 p256 q256
               obtain rfl : ad253 = ad256 := (by injection e256)
               replace hx256_0 := zH HB hx256_0
               replace p256 := eq_true p256
               replace q256 := eq_true q256
               have hnb26 := NB252_249.out
               have hnc26 := NB249_252.out
               have hnb27 := NB252_250.out
               have hnc27 := NB250_252.out
               have hcz28_0 : w25.cell? ⟨gb252, (rd l1 x7_1).toNat, none⟩ = some (.bool (metB x253000_1 (rd l1 x7_1))) := metcell BK252.out cv.1 cv.2
               have hfz28_0 := blk_frozen BK252.out (rd l1 x7_1).toNat
               try go_wp2
               go_roundg k1
               case measure => have := HK1.out; omega
               case rel => exact ⟨(wrap64 (x7_1 + 1)), (x251000_1), (x251001_1), ((rd l1 x7_1) :: x253000_1), (by first | rfl | (simp; done) | (simp [*]; done)), H', ⟨by have := HK1.out; omega⟩, ⟨by (with_reducible repeat (first | refine blk_drewN ?_ _ | refine blk_drew ?_ | refine blk_alloc ?_ _)); refine blk_far ?_ NB249_252.out _; (with_reducible repeat (first | refine blk_drewN ?_ _ | refine blk_drew ?_ | refine blk_alloc ?_ _)); exact BK249.out⟩, ⟨by (with_reducible repeat (first | refine blk_drewN ?_ _ | refine blk_drew ?_ | refine blk_alloc ?_ _)); refine blk_far ?_ NB250_252.out _; (with_reducible repeat (first | refine blk_drewN ?_ _ | refine blk_drew ?_ | refine blk_alloc ?_ _)); exact BK250.out⟩, ⟨by (with_reducible repeat (first | refine blk_drewN ?_ _ | refine blk_drew ?_ | refine blk_alloc ?_ _)); refine metput cv.1 cv.2 ?_; (with_reducible repeat (first | refine blk_drewN ?_ _ | refine blk_drew ?_ | refine blk_alloc ?_ _)); exact BK252.out⟩, ⟨zB⟩⟩
             ·replace c19 := Bool.eq_false_iff.mpr c19
              subst c19
              have H1 : (some (0, 0, ([] : List (S89)), 2)) = some (r1, r2, r3, r4) := by rw [if_neg (show ¬ (false = true) by decide)] at H; exact H
              clear H
              have H := H1
              clear H1
              simp only [Option.some.injEq, Prod.mk.injEq] at H
              obtain ⟨rfl, rfl, rfl, rfl⟩ := H
              try go_wp2
              have n0_ := Aside0.mk (blk_drew BK249.out)
              have n1_ := Aside0.mk (blk_drew BK250.out)
              have n2_ := Aside0.mk (blk_drew BK252.out)
              have n3_ := Aside0.mk (below_drew1 HB.out)
              clear BK249
              clear BK250
              clear BK252
              clear HB
              have BK249 := n0_
              have BK250 := n1_
              have BK252 := n2_
              have HB := n3_
              clear n0_ n1_ n2_ n3_
              have p253 : 0 ≤ (x7_1 : Int) := zD
              have q253 : x7_1 < (l1.length : Int) := zD
              obtain ⟨ad253, e253, hx253_0⟩ := Kd.at_int HR1.out x7_1 p253 q253
              have hw253_0 := hx253_0
              cases e253
              replace hx253_0 := zH HB hx253_0
              replace p253 := eq_true p253
              replace q253 := eq_true q253
              refine start_ (n := 17) (S := fun w' => w'.cell? ⟨gb249, 0, none⟩ = some (.int .i64 a0_0) ∧ w'.cell? ⟨gb249, 1, none⟩ = some (.int .i64 a0_1) ∧ w'.cell? ⟨gb249, 2, none⟩ = some (.slice A0_2 l0_2.length c0_2) ∧ w'.cell? (ad253.add (x7_1).toNat) = some (.int .i64 (rd l1 x7_1))) (ds := []) #[false, false, false, false, false, false, false, false, false, false, false, false, false, false, false, false, false] (by kernel_rfl) rfl rfl ⟨(blk_cell BK249.out 0).trans rfl, (blk_cell BK249.out 1).trans rfl, (blk_cell BK249.out 2).trans rfl, (zH HB hw253_0 :)⟩ (fun hHeld => ?_); refine with_tabW spec_ExchangeLetters.tab9 spec_ExchangeLetters.bits9 (fun HT_ HW_ => ?_)
              generalize wr.drew = w29 at BK249 BK250 BK252 HB hx253_0 hHeld ⊢
              refine zP 0 (N := some 31) (h := ?_)
              refine zP 1 (N := some 32) (h := ?_)
              refine zP 2 (N := some 33) (h := ?_)
              refine zP 4 (N := some 35) (h := ?_)
              refine zT 3 hHeld (N := some 34) (h := ?_)
              refine zT 5 hHeld (N := some 36) (h := ?_)
              refine zP 6 (N := some 37) (h := ?_)
              refine one_ (i := 7) (N := some 38) #[true, true, true, true, true, true, true, true, false, false, false, false, false, false, false, false, false] rfl rfl (one_of HT_.out (by kernel_rfl)) (by decide) (fun K hK => ?_)
              refine goes_ Try.func92 (by kernel_rfl) rfl #[.int .i64 (rd l1 x7_1), .int .i64 0, .int .i64 (wrap64 (a0_0 - 1))] (by rfl) rfl rfl zM ?_
              with_reducible refine (spec_l01In.calls (rd l1 x7_1) 0 (wrap64 (a0_0 - 1)) false _ A18.out).mono ?_
              rintro e w' ⟨rfl, ⟨nd, rfl⟩⟩
              refine ⟨_, rfl, ?_⟩
              refine hK.out _ _ ⟨(blk_cell BK249.out 0).trans rfl, (blk_cell BK249.out 1).trans rfl, (blk_cell BK249.out 2).trans rfl, (zH HB hw253_0 :)⟩ (fun hHeld => ?_)
              clear hK K
              refine norm_ (a' := ?_) ?_ ?_
              rotate_left
              ·show Act.put _ (some 38) _ = _
               simp only [Act.put, List.setIfInBounds_toArray, List.set_cons_zero, List.set_cons_succ, i64_w, i32_w]
               rfl
              refine zP 8 (N := some 39) (h := ?_)
              refine zP 9 (N := some 40) (h := ?_)
              refine pure_ (i := 10) (N := some 41) (v := undef) (a' := ?_) #[true, true, true, true, true, true, true, true, true, true, true, false, false, false, false, false, false] rfl rfl (any_of HT_.out (by kernel_rfl)) (fun _ _ _ h => h) (Or.inr ⟨by rfl, rfl⟩) ?_ ?_
              rotate_left
              ·simp only [Act.put, List.setIfInBounds_toArray, List.set_cons_zero, List.set_cons_succ, i64_w, i32_w]
               rfl
              refine pure_ (i := 11) (N := some 42) (v := undef) (a' := ?_) #[true, true, true, true, true, true, true, true, true, true, true, true, false, false, false, false, false] rfl rfl (any_of HT_.out (by kernel_rfl)) (fun _ _ _ h => h) (Or.inr ⟨by rfl, rfl⟩) ?_ ?_
              rotate_left
              ·simp only [Act.put, List.setIfInBounds_toArray, List.set_cons_zero, List.set_cons_succ, i64_w, i32_w]
               rfl
              refine pure_ (i := 12) (N := some 43) (v := undef) (a' := ?_) #[true, true, true, true, true, true, true, true, true, true, true, true, true, false, false, false, false] rfl rfl (any_of HT_.out (by kernel_rfl)) (fun _ _ _ h => h) (Or.inr ⟨by rfl, rfl⟩) ?_ ?_
              rotate_left
              ·simp only [Act.put, List.setIfInBounds_toArray, List.set_cons_zero, List.set_cons_succ, i64_w, i32_w]
               rfl
              refine pure_ (i := 13) (N := some 44) (v := undef) (a' := ?_) #[true, true, true, true, true, true, true, true, true, true, true, true, true, true, false, false, false] rfl rfl (any_of HT_.out (by kernel_rfl)) (fun _ _ _ h => h) (Or.inr ⟨by rfl, rfl⟩) ?_ ?_
              rotate_left
              ·simp only [Act.put, List.setIfInBounds_toArray, List.set_cons_zero, List.set_cons_succ, i64_w, i32_w]
               rfl
              refine pure_ (i := 14) (N := some 45) (v := undef) (a' := ?_) #[true, true, true, true, true, true, true, true, true, true, true, true, true, true, true, false, false] rfl rfl (any_of HT_.out (by kernel_rfl)) (fun _ _ _ h => h) (Or.inr ⟨by rfl, rfl⟩) ?_ ?_
              rotate_left
              ·simp only [Act.put, List.setIfInBounds_toArray, List.set_cons_zero, List.set_cons_succ, i64_w, i32_w]
               rfl
              refine pure_ (i := 15) (N := some 46) (v := undef) (a' := ?_) #[true, true, true, true, true, true, true, true, true, true, true, true, true, true, true, true, false] rfl rfl (any_of HT_.out (by kernel_rfl)) (fun _ _ _ h => h) (Or.inr ⟨by rfl, rfl⟩) ?_ ?_
              rotate_left
              ·simp only [Act.put, List.setIfInBounds_toArray, List.set_cons_zero, List.set_cons_succ, i64_w, i32_w]
               rfl
              refine zP 16 (N := some 47) (h := ?_)
              refine done_ (done_of HT_.out (by kernel_rfl)) ?_
              have hnb30 := NB250_249.out
              have hnc30 := NB249_250.out
              have hnb31 := NB250_252.out
              have hnc31 := NB252_250.out
              have hcz32_0 : w29.cell? ⟨gb250, 0, none⟩ = some (.int .i64 x251000_1) := zE BK250
              have hcz32_1 : w29.cell? ⟨gb250, 1, none⟩ = some (.int .i64 x251001_1) := zE BK250
              have hcz32_2 : w29.cell? ⟨gb250, 2, none⟩ = some (.slice none 0 0) := zE BK250
              have hfz32_0 := blk_frozen BK250.out 0
              have hfz32_1 := blk_frozen BK250.out 1
              have hfz32_2 := blk_frozen BK250.out 2
              try go_wp2
              refine bodyPost_ret (results_ct rfl _ _ gb250 32 #[.int .i64 0, .int .i64 0, .slice none 0 0] (0, 0) _ rfl (by (with_reducible repeat (first | refine blk_drewN ?_ _ | refine blk_drew ?_ | refine blk_alloc ?_ _)); refine blk_put (cs := #[.int .i64 0, .int .i64 0, .slice none 0 0]) ?_ 2 _ rfl; (with_reducible repeat (first | refine blk_drewN ?_ _ | refine blk_drew ?_ | refine blk_alloc ?_ _)); refine blk_put (cs := #[.int .i64 0, .int .i64 x251001_1, .slice none 0 0]) ?_ 1 _ rfl; (with_reducible repeat (first | refine blk_drewN ?_ _ | refine blk_drew ?_ | refine blk_alloc ?_ _)); refine blk_put (cs := #[.int .i64 x251000_1, .int .i64 x251001_1, .slice none 0 0]) ?_ 0 _ rfl; exact zK) Try.underlying32 rfl (by kernel_rfl)) rfl ?_
              exact ⟨_, by first | rfl | (simp [errW_none, errW_some] <;> rfl) | (simp [*, errW_none, errW_some] <;> rfl), by first | exact Kd.R_nil _ _ _ _ _ | exact Kd.N_nil _ _ _ _ _ | exact Kd.V_nil _ _ _ _ _ | exact Kd.Q_nil _ _ _ _ _ | exact Kd.S_nil _ _ _ _ _, zB⟩
            ·rw [if_neg c17] at H
             exact absurd H (by simp)
          · rw [if_neg c16] at H
            have c16b0 : decide (x7_1 < (l1.length : Int)) = false := decide_eq_false c16
            clear c16
            replace H := Option.bind_eq_some_iff.mp H
            obtain ⟨⟨t257, t258, t259⟩, A330, H⟩ := H
            replace H : (spec_ExchangeLetters.l1 k1 l1 0 a0_0 a0_1 l0_2 t257 t258 t259) = some (r1, r2, r3, r4) := H
            have A33 := Aside0.mk A330
            clear A330
            have H' := Aside0.mk H
            clear H
            have hnb34 := NB249_250.out
            have hnc34 := NB250_249.out
            have hnb35 := NB249_252.out
            have hnc35 := NB252_249.out
            have hcz36_0 : wr.cell? ⟨gb249, 0, none⟩ = some (.int .i64 a0_0) := zE BK249
            have hcz36_1 : wr.cell? ⟨gb249, 1, none⟩ = some (.int .i64 a0_1) := zE BK249
            have hcz36_2 : wr.cell? ⟨gb249, 2, none⟩ = some (.slice A0_2 l0_2.length c0_2) := zE BK249
            have hfz36_0 := blk_frozen BK249.out 0
            have hfz36_1 := blk_frozen BK249.out 1
            have hfz36_2 := blk_frozen BK249.out 2
            go_wp2_with (first | ((with_reducible refine gate_callee (f := 77) rfl ?_); refine goesL_ (some 55) rfl rfl Try.func77 (by kernel_rfl) rfl #[.agg #[.int .i64 a0_0, .int .i64 a0_1, .slice A0_2 l0_2.length c0_2]] rfl zM ?_; (with_reducible refine (spec_l01Empty.calls a0_0 a0_1 _ _ l0_2 t257 t258 t259 _ ?side1 ?side2 A33.out).mono ?_); (case side1 => repeat (first | exact (Kd.C_below HR0_2.out HB.out) | (with_reducible refine Kd.C_alloc ?_ _) | (with_reducible refine Kd.C_drewN ?_ _) | (with_reducible refine Kd.C_drew ?_))); (case side2 => exact HC0_2.out); rintro e w37 ⟨v260, rfl, ho0, hb⟩; refine ⟨_, rfl, ?_⟩; have n0_ := Aside0.mk (Kd.R_lower ho0 (below_size zB)); have n1_ := Aside0.mk (blk_below (g := gb249) (o := .cells #[.int .i64 a0_0, .int .i64 a0_1, .slice A0_2 l0_2.length c0_2] 32 (0, 0)) zK hb); have n2_ := Aside0.mk (blk_below (g := gb250) (o := .cells #[.int .i64 x251000_1, .int .i64 x251001_1, .slice none 0 0] 32 (0, 0)) zK hb); have n3_ := Aside0.mk (blk_below (g := gb252) (o := .cells (metC x253000_1) 110 (0, 0)) zK hb); have n4_ := Aside0.mk (below_step zB hb); clear BK249; clear BK250; clear BK252; clear HB; have HO261 := n0_; have BK249 := n1_; have BK250 := n2_; have BK252 := n3_; have HB := n4_; clear n0_ n1_ n2_ n3_ n4_; (try clear hb); (try clear hb2); (try clear hk); (try clear hi); (try clear ho0)) | ((with_reducible refine gate_dst (N := 8) rfl ?_); refine box_event ?hg (N := 8) ?hd (cs := #[.int .i64 0, .int .i64 0, .slice none 0 0]) (t := 32) ?hr ?_; (case hd => rfl); (case hg => rfl); (case hr => first | (go_simp; done) | (go_simp; rfl)); intro gb262 hg w38 hbox hb; have n0_ := Aside0.mk (Kd.R_below (by (with_reducible repeat (first | apply Kd.R_alloc | apply Kd.R_drewN | apply Kd.R_drew)); exact HO261.out) hb); have n1_ := Aside0.mk (blk_below (g := gb249) (o := .cells #[.int .i64 a0_0, .int .i64 a0_1, .slice A0_2 l0_2.length c0_2] 32 (0, 0)) zK hb); have n2_ := Aside0.mk (blk_below (g := gb250) (o := .cells #[.int .i64 x251000_1, .int .i64 x251001_1, .slice none 0 0] 32 (0, 0)) zK hb); have n3_ := Aside0.mk (blk_below (g := gb252) (o := .cells (metC x253000_1) 110 (0, 0)) zK hb); have n4_ := Aside0.mk (below_step zB hb); have n5_ := Aside0.mk (hbox); have n6_ := Aside0.mk (zG : w.heap.size ≤ gb262); have n7_ := Aside0.mk (zG : w.heap.size ≤ gb262); have n8_ := Aside0.mk ((by rw [hg]; exact Nat.ne_of_lt (blk_lt (g := gb249) (o := .cells #[.int .i64 a0_0, .int .i64 a0_1, .slice A0_2 l0_2.length c0_2] 32 (0, 0)) zK) : gb249 ≠ gb262)); have n9_ := Aside0.mk ((by rw [hg]; exact Nat.ne_of_gt (blk_lt (g := gb249) (o := .cells #[.int .i64 a0_0, .int .i64 a0_1, .slice A0_2 l0_2.length c0_2] 32 (0, 0)) zK) : gb262 ≠ gb249)); have n10_ := Aside0.mk ((by rw [hg]; exact Nat.ne_of_lt (blk_lt (g := gb250) (o := .cells #[.int .i64 x251000_1, .int .i64 x251001_1, .slice none 0 0] 32 (0, 0)) zK) : gb250 ≠ gb262)); have n11_ := Aside0.mk ((by rw [hg]; exact Nat.ne_of_gt (blk_lt (g := gb250) (o := .cells #[.int .i64 x251000_1, .int .i64 x251001_1, .slice none 0 0] 32 (0, 0)) zK) : gb262 ≠ gb250)); have n12_ := Aside0.mk ((by rw [hg]; exact Nat.ne_of_lt (blk_lt (g := gb252) (o := .cells (metC x253000_1) 110 (0, 0)) zK) : gb252 ≠ gb262)); have n13_ := Aside0.mk ((by rw [hg]; exact Nat.ne_of_gt (blk_lt (g := gb252) (o := .cells (metC x253000_1) 110 (0, 0)) zK) : gb262 ≠ gb252)); clear HO261; clear BK249; clear BK250; clear BK252; clear HB; have HO261 := n0_; have BK249 := n1_; have BK250 := n2_; have BK252 := n3_; have HB := n4_; have BK262 := n5_; have GW262 := n6_; have GE262 := n7_; have NB249_262 := n8_; have NB262_249 := n9_; have NB250_262 := n10_; have NB262_250 := n11_; have NB252_262 := n12_; have NB262_252 := n13_; clear n0_ n1_ n2_ n3_ n4_ n5_ n6_ n7_ n8_ n9_ n10_ n11_ n12_ n13_; clear hb hbox hg; have hnb39 := NB262_249.out; have hnc39 := NB249_262.out; have hnb40 := NB262_250.out; have hnc40 := NB250_262.out; have hnb41 := NB262_252.out; have hnc41 := NB252_262.out; have hcz42_0 : w38.cell? ⟨gb262, 0, none⟩ = some (.int .i64 0) := zE BK262; have hcz42_1 : w38.cell? ⟨gb262, 1, none⟩ = some (.int .i64 0) := zE BK262; have hcz42_2 : w38.cell? ⟨gb262, 2, none⟩ = some (.slice none 0 0) := zE BK262; have hfz42_0 := blk_frozen BK262.out 0; have hfz42_1 := blk_frozen BK262.out 1; have hfz42_2 := blk_frozen BK262.out 2; obtain ⟨Ao43, co43, eo43⟩ := Kd.R_slice HO261.out; subst eo43))
            go_loopg [9] k1 (fun kq v9 w' => ∃ (x9_2 : Int) (x263002_2 : List (S89)) (u263002 : Value), v9 = .int .i64 x9_2 ∧ Aside0 (spec_ExchangeLetters.l1 kq l1 x9_2 a0_0 a0_1 l0_2 t257 t258 x263002_2 = some (r1, r2, r3, r4)) ∧ Aside0 (kq ≤ k1) ∧ Aside0 (Kd.R k89 89 w' w.heap.size (fun _ => True) u263002 x263002_2) ∧ Aside0 (w'.heap[gb249]? = some (.cells #[.int .i64 a0_0, .int .i64 a0_1, (.slice A0_2 l0_2.length c0_2)] 32 (0, 0))) ∧ Aside0 (w'.heap[gb250]? = some (.cells #[.int .i64 x251000_1, .int .i64 x251001_1, (.slice none 0 0)] 32 (0, 0))) ∧ Aside0 (w'.heap[gb252]? = some (.cells (metC x253000_1) 110 (0, 0))) ∧ Aside0 (w'.heap[gb262]? = some (.cells #[.int .i64 t257, .int .i64 t258, u263002] 32 (0, 0))) ∧ Aside0 (Below w.heap.size w w'))
            case atStart => exact ⟨(0), (t259), (.slice Ao43 t259.length co43), (by first | rfl | (simp; done) | (simp [*]; done)), H', ⟨Nat.le_refl _⟩, ⟨by (with_reducible repeat (first | apply Kd.R_alloc | apply Kd.R_drewN | apply Kd.R_drew)); exact Kd.R_mono (Kd.R_far (p := ⟨gb262, 2, none⟩) (Kd.R_far (p := ⟨gb262, 1, none⟩) (Kd.R_far (p := ⟨gb262, 0, none⟩) (Kd.R_types HO261.out BK262.out (by decide)) (fun _ hk => hk.2) (.int .i64 t257)) (fun _ hk => hk.2) (.int .i64 t258)) (fun _ hk => hk.2) (.slice Ao43 t259.length co43)) (fun _ hk => trivial)⟩, ⟨by (with_reducible repeat (first | refine blk_drewN ?_ _ | refine blk_drew ?_ | refine blk_alloc ?_ _)); refine blk_far ?_ NB249_262.out _; (with_reducible repeat (first | refine blk_drewN ?_ _ | refine blk_drew ?_ | refine blk_alloc ?_ _)); refine blk_far ?_ NB249_262.out _; (with_reducible repeat (first | refine blk_drewN ?_ _ | refine blk_drew ?_ | refine blk_alloc ?_ _)); refine blk_far ?_ NB249_262.out _; (with_reducible repeat (first | refine blk_drewN ?_ _ | refine blk_drew ?_ | refine blk_alloc ?_ _)); exact BK249.out⟩, ⟨by (with_reducible repeat (first | refine blk_drewN ?_ _ | refine blk_drew ?_ | refine blk_alloc ?_ _)); refine blk_far ?_ NB250_262.out _; (with_reducible repeat (first | refine blk_drewN ?_ _ | refine blk_drew ?_ | refine blk_alloc ?_ _)); refine blk_far ?_ NB250_262.out _; (with_reducible repeat (first | refine blk_drewN ?_ _ | refine blk_drew ?_ | refine blk_alloc ?_ _)); refine blk_far ?_ NB250_262.out _; (with_reducible repeat (first | refine blk_drewN ?_ _ | refine blk_drew ?_ | refine blk_alloc ?_ _)); exact BK250.out⟩, ⟨by (with_reducible repeat (first | refine blk_drewN ?_ _ | refine blk_drew ?_ | refine blk_alloc ?_ _)); refine blk_far ?_ NB252_262.out _; (with_reducible repeat (first | refine blk_drewN ?_ _ | refine blk_drew ?_ | refine blk_alloc ?_ _)); refine blk_far ?_ NB252_262.out _; (with_reducible repeat (first | refine blk_drewN ?_ _ | refine blk_drew ?_ | refine blk_alloc ?_ _)); refine blk_far ?_ NB252_262.out _; (with_reducible repeat (first | refine blk_drewN ?_ _ | refine blk_drew ?_ | refine blk_alloc ?_ _)); exact BK252.out⟩, ⟨by (with_reducible repeat (first | refine blk_drewN ?_ _ | refine blk_drew ?_ | refine blk_alloc ?_ _)); refine blk_put (cs := #[.int .i64 t257, .int .i64 t258, .slice none 0 0]) ?_ 2 _ rfl; (with_reducible repeat (first | refine blk_drewN ?_ _ | refine blk_drew ?_ | refine blk_alloc ?_ _)); refine blk_put (cs := #[.int .i64 t257, .int .i64 0, .slice none 0 0]) ?_ 1 _ rfl; (with_reducible repeat (first | refine blk_drewN ?_ _ | refine blk_drew ?_ | refine blk_alloc ?_ _)); refine blk_put (cs := #[.int .i64 0, .int .i64 0, .slice none 0 0]) ?_ 0 _ rfl; (with_reducible repeat (first | refine blk_drewN ?_ _ | refine blk_drew ?_ | refine blk_alloc ?_ _)); exact BK262.out⟩, ⟨zB⟩⟩
            case round =>
             clear H'
             obtain ⟨x9_2, x263002_2, u263002, rfl, HA, HK2, HO_263002, BK249, BK250, BK252, BK262, HB⟩ := hrel
             cases gk with
             | zero => exact absurd HA.out (by simp [spec_ExchangeLetters.l1])
             | succ k2 =>
              have H := HA.out
              clear HA
              simp only [spec_ExchangeLetters.l1] at H
              by_cases c44 : x9_2 < (l0_2.length : Int)
              ·rw [if_pos c44] at H
               have c44b0 : decide (x9_2 < (l0_2.length : Int)) = true := decide_eq_true c44
               clear c44
               obtain ⟨y263, hy263⟩ : ∃ y_ : List Int, y_ = (([] : List Int)) := ⟨_, rfl⟩
               replace H : (spec_ExchangeLetters.l2 k2 l1 x9_2 y263 0 a0_0 a0_1 l0_2 t257 t258 x263002_2) = some (r1, r2, r3, r4) := by first | (rw [hy263]; with_reducible exact H) | (have H2_ := (Option.bind_some _ _).symm.trans H; rw [hy263]; with_reducible exact H2_) | (have H2_ := (Option.bind_some _ _).symm.trans H; with_reducible exact H2_) | with_reducible exact H | (rw [hy263]; exact H) | exact H
               have Ny263 := Aside0.mk hy263
               clear hy263
               have H' := Aside0.mk H
               clear H
               have hnb45 := NB249_250.out
               have hnc45 := NB250_249.out
               have hnb46 := NB249_252.out
               have hnc46 := NB252_249.out
               have hnb47 := NB249_262.out
               have hnc47 := NB262_249.out
               have hcz48_0 : wr.cell? ⟨gb249, 0, none⟩ = some (.int .i64 a0_0) := zE BK249
               have hcz48_1 : wr.cell? ⟨gb249, 1, none⟩ = some (.int .i64 a0_1) := zE BK249
               have hcz48_2 : wr.cell? ⟨gb249, 2, none⟩ = some (.slice A0_2 l0_2.length c0_2) := zE BK249
               have hfz48_0 := blk_frozen BK249.out 0
               have hfz48_1 := blk_frozen BK249.out 1
               have hfz48_2 := blk_frozen BK249.out 2
               go_wp2_with (first | ((with_reducible refine gate_dst (N := 63) rfl ?_); refine Kd.R_lit (Kd.int .u8) _ 5 ?hg (N := 63) ?hd (xs := ([] : List Int)) (inner := []) (ok := fun _ => True) (okp := fun _ => True) ?hr ?hp (fun _ hk => hk) trivial (Below.refl _ _) (Nat.le_refl _) (by simp) ?_; (case hd => rfl); (case hg => rfl); (case hr => first | (go_simp; done) | (go_simp; rfl)); (case hp => exact (Reps.none _ _)); intro v264 w49 ho50 hb hg_ hnew_; clear hg_ hnew_; (first | rw [← Ny263.out] at ho50 | (simp only [Int.reduceToNat] at ho50; rw [← Ny263.out] at ho50)); have n0_ := Aside0.mk (Kd.R_below (by (with_reducible repeat (first | apply Kd.R_alloc | apply Kd.R_drewN | apply Kd.R_drew)); exact HO_263002.out) hb); have n1_ := Aside0.mk (Kd.R_lower ho50 (below_size zB)); have n2_ := Aside0.mk (blk_below (g := gb249) (o := .cells #[.int .i64 a0_0, .int .i64 a0_1, .slice A0_2 l0_2.length c0_2] 32 (0, 0)) zK hb); have n3_ := Aside0.mk (blk_below (g := gb250) (o := .cells #[.int .i64 x251000_1, .int .i64 x251001_1, .slice none 0 0] 32 (0, 0)) zK hb); have n4_ := Aside0.mk (blk_below (g := gb252) (o := .cells (metC x253000_1) 110 (0, 0)) zK hb); have n5_ := Aside0.mk (blk_below (g := gb262) (o := .cells #[.int .i64 t257, .int .i64 t258, u263002] 32 (0, 0)) zK hb); have n6_ := Aside0.mk (below_step zB hb); clear HO_263002; clear BK249; clear BK250; clear BK252; clear BK262; clear HB; have HO_263002 := n0_; have HO265 := n1_; have BK249 := n2_; have BK250 := n3_; have BK252 := n4_; have BK262 := n5_; have HB := n6_; clear n0_ n1_ n2_ n3_ n4_ n5_ n6_; clear hb ho50))
               go_loopg [10, 11] k2 (fun kq v10 v11 w' => ∃ (x10_3 : List Int) (x11_3 : Int), v11 = .int .i64 x11_3 ∧ Aside0 (spec_ExchangeLetters.l2 kq l1 x9_2 x10_3 x11_3 a0_0 a0_1 l0_2 t257 t258 x263002_2 = some (r1, r2, r3, r4)) ∧ Aside0 (kq ≤ k2) ∧ Aside0 (Kd.R (Kd.int .u8) 5 w' w.heap.size (fun _ => True) v10 x10_3) ∧ Aside0 (Kd.R k89 89 w' w.heap.size (fun _ => True) u263002 x263002_2) ∧ Aside0 (w'.heap[gb249]? = some (.cells #[.int .i64 a0_0, .int .i64 a0_1, (.slice A0_2 l0_2.length c0_2)] 32 (0, 0))) ∧ Aside0 (w'.heap[gb250]? = some (.cells #[.int .i64 x251000_1, .int .i64 x251001_1, (.slice none 0 0)] 32 (0, 0))) ∧ Aside0 (w'.heap[gb252]? = some (.cells (metC x253000_1) 110 (0, 0))) ∧ Aside0 (w'.heap[gb262]? = some (.cells #[.int .i64 t257, .int .i64 t258, u263002] 32 (0, 0))) ∧ Aside0 (Below w.heap.size w w'))
               case atStart => exact ⟨(y263), (0), (by first | rfl | (simp; done) | (simp [*]; done)), H', ⟨Nat.le_refl _⟩, ⟨zR⟩, ⟨zR⟩, ⟨zK⟩, ⟨zK⟩, ⟨zK⟩, ⟨zK⟩, ⟨zB⟩⟩
               case round =>
                clear H'
                obtain ⟨x10_3, x11_3, rfl, HA, HK3, HO_10, HO_263002, BK249, BK250, BK252, BK262, HB⟩ := hrel
                cases gk with
                | zero => exact absurd HA.out (by simp [spec_ExchangeLetters.l2])
                | succ k3 =>
                 have H := HA.out
                 clear HA
                 simp only [spec_ExchangeLetters.l2] at H
                 by_cases c51 : 0 ≤ x9_2
                 ·rw [if_pos c51] at H
                  have c51b0 : decide (0 ≤ x9_2) = true := decide_eq_true c51
                  clear c51
                  by_cases c52 : x9_2 < (l0_2.length : Int)
                  ·rw [if_pos c52] at H
                   have c52b0 : decide (x9_2 < (l0_2.length : Int)) = true := decide_eq_true c52
                   clear c52
                   by_cases c53 : x11_3 < (((rd_T89 l0_2 x9_2).f0).size : Int)
                   ·rw [if_pos c53] at H
                    have c53b0 : decide (x11_3 < (((rd_T89 l0_2 x9_2).f0).size : Int)) = true := decide_eq_true c53
                    clear c53
                    by_cases c54 : 0 ≤ x11_3
                    ·rw [if_pos c54] at H
                     have c54b0 : decide (0 ≤ x11_3) = true := decide_eq_true c54
                     clear c54
                     obtain ⟨ji56, hji56⟩ : ∃ j_ : Int, (((bt ((rd_T89 l0_2 x9_2).f0) x11_3) - 48) % 256) = j_ := ⟨_, rfl⟩
                     replace H : (if 0 ≤ (ji56) then (if (ji56) < (l1.length : Int) then (if x10_3.length < 140737488355328 then (spec_ExchangeLetters.l2 k3 l1 x9_2 (x10_3 ++ [(wrap64 (48 + (rd l1 (ji56)))) % 256]) (wrap64 (x11_3 + 1)) a0_0 a0_1 l0_2 t257 t258 x263002_2) else (none)) else (none)) else (none)) = some (r1, r2, r3, r4) := by first | (rw [hji56] at H; exact H) | (simp only [hji56] at H ⊢; exact H)
                     by_cases c57 : 0 ≤ (ji56)
                     ·rw [if_pos c57] at H
                      have c57b0 : decide (0 ≤ (ji56)) = true := decide_eq_true c57
                      clear c57
                      by_cases c58 : (ji56) < (l1.length : Int)
                      ·rw [if_pos c58] at H
                       have c58b0 : decide ((ji56) < (l1.length : Int)) = true := decide_eq_true c58
                       clear c58
                       by_cases c59 : x10_3.length < 140737488355328
                       ·rw [if_pos c59] at H
                        have LMc59 := Aside0.mk c59
                        clear c59
                        obtain ⟨y269, hy269⟩ : ∃ y_ : List Int, y_ = (x10_3 ++ [(wrap64 (48 + (rd l1 (ji56)))) % 256]) := ⟨_, rfl⟩
                        replace H : (spec_ExchangeLetters.l2 k3 l1 x9_2 y269 (wrap64 (x11_3 + 1)) a0_0 a0_1 l0_2 t257 t258 x263002_2) = some (r1, r2, r3, r4) := by first | (rw [hy269]; with_reducible exact H) | (have H2_ := (Option.bind_some _ _).symm.trans H; rw [hy269]; with_reducible exact H2_) | (have H2_ := (Option.bind_some _ _).symm.trans H; with_reducible exact H2_) | with_reducible exact H | (rw [hy269]; exact H) | exact H
                        have Ny269 := Aside0.mk hy269
                        clear hy269
                        have H' := Aside0.mk H
                        clear H
                        have hnb60 := NB249_250.out
                        have hnc60 := NB250_249.out
                        have hnb61 := NB249_252.out
                        have hnc61 := NB252_249.out
                        have hnb62 := NB249_262.out
                        have hnc62 := NB262_249.out
                        have hcz63_0 : wr.cell? ⟨gb249, 0, none⟩ = some (.int .i64 a0_0) := zE BK249
                        have hcz63_1 : wr.cell? ⟨gb249, 1, none⟩ = some (.int .i64 a0_1) := zE BK249
                        have hcz63_2 : wr.cell? ⟨gb249, 2, none⟩ = some (.slice A0_2 l0_2.length c0_2) := zE BK249
                        have hfz63_0 := blk_frozen BK249.out 0
                        have hfz63_1 := blk_frozen BK249.out 1
                        have hfz63_2 := blk_frozen BK249.out 2
                        have p266 : 0 ≤ (x9_2 : Int) := zD
                        have q266 : x9_2 < (l0_2.length : Int) := zD
                        obtain ⟨ad266, e266, hx266_0, hx266_1, hx266_2⟩ := at_T89 HR0_2.out x9_2 p266 q266
                        cases e266
                        replace hx266_0 := zH HB hx266_0
                        replace hx266_1 := zH HB hx266_1
                        replace hx266_2 := zH HB hx266_2
                        replace p266 := eq_true p266
                        replace q266 := eq_true q266
                        have p267 : 0 ≤ (x9_2 : Int) := zD
                        have q267 : x9_2 < (l0_2.length : Int) := zD
                        obtain ⟨ad267, e267, hx267_0, hx267_1, hx267_2⟩ := at_T89 HR0_2.out x9_2 p267 q267
                        obtain rfl : ad266 = ad267 := (by injection e267)
                        replace hx267_0 := zH HB hx267_0
                        replace hx267_1 := zH HB hx267_1
                        replace hx267_2 := zH HB hx267_2
                        replace p267 := eq_true p267
                        replace q267 := eq_true q267
                        have p55 : 0 ≤ (x11_3 : Int) := zD
                        have q55 : x11_3 < (((rd_T89 l0_2 x9_2).f0).size : Int) := zD
                        have hx55 := bt_at ((rd_T89 l0_2 x9_2).f0) x11_3
                        replace p55 := eq_true p55
                        replace q55 := eq_true q55
                        have p268 : 0 ≤ ((ji56) : Int) := zD
                        have q268 : (ji56) < (l1.length : Int) := zD
                        obtain ⟨ad268, e268, hx268_0⟩ := Kd.at_int HR1.out (ji56) p268 q268
                        cases e268
                        replace hx268_0 := zH HB hx268_0
                        replace p268 := eq_true p268
                        replace q268 := eq_true q268
                        go_wp2_with (first | ((with_reducible refine gate_builtin (b := .append) (xs := #[.tmp 75, .tmp 90]) rfl ?_); at_builtin; refine Kd.R_append (Kd.int .u8) (w0 := w) w.heap.size rfl (.tmp 75) (.tmp 90) 112 5 (.int .u8 0) 1 rfl Try.underlying112 info5 rfl (by decide) (by omega) u10 x10_3 ((wrap64 (48 + (rd l1 (ji56)))) % 256) [.int .u8 ((wrap64 (48 + (rd l1 (ji56)))) % 256)] (fun _ => True) (fun _ => False) rfl rfl ?aP (fun _ hk => hk.elim) ?aF ?aO ?aB ?aS ?aL ?_; (case aP => exact rfl); (case aB => exact zB); (case aF => exact (fun _ _ => trivial)); (case aO => exact zR); (case aS => exact (below_size zB)); (case aL => have := LMc59.out; omega); intro v270 w64 ho hb hg hat; rw [← Ny269.out] at ho; have n0_ := Aside0.mk (Kd.R_over' zR (Kd.R_typed zR) (by decide) hg); have n1_ := Aside0.mk (blk_grown (g := gb249) (o := .cells #[.int .i64 a0_0, .int .i64 a0_1, .slice (some ad266) l0_2.length c0_2] 32 (0, 0)) zK hg (Kd.R_ne HO_10.out BK249.out (by decide))); have n2_ := Aside0.mk (blk_grown (g := gb250) (o := .cells #[.int .i64 x251000_1, .int .i64 x251001_1, .slice none 0 0] 32 (0, 0)) zK hg (Kd.R_ne HO_10.out BK250.out (by decide))); have n3_ := Aside0.mk (blk_grown (g := gb252) (o := .cells (metC x253000_1) 110 (0, 0)) zK hg (Kd.R_ne HO_10.out BK252.out (by decide))); have n4_ := Aside0.mk (blk_grown (g := gb262) (o := .cells #[.int .i64 t257, .int .i64 t258, u263002] 32 (0, 0)) zK hg (Kd.R_ne HO_10.out BK262.out (by decide))); have n5_ := Aside0.mk (hb); have n6_ := Aside0.mk (ho); clear HO_263002; clear BK249; clear BK250; clear BK252; clear BK262; clear HB; clear HO_10; have HO_263002 := n0_; have BK249 := n1_; have BK250 := n2_; have BK252 := n3_; have BK262 := n4_; have HB := n5_; have HO271 := n6_; clear n0_ n1_ n2_ n3_ n4_ n5_ n6_; clear ho hb hg hat))
                        go_roundg k3
                        case measure => have := HK1.out; have := HK2.out; have := HK3.out; omega
                        case rel => exact ⟨(y269), (wrap64 (x11_3 + 1)), (by first | rfl | (simp; done) | (simp [*]; done)), H', ⟨by have := HK1.out; have := HK2.out; have := HK3.out; omega⟩, ⟨zR⟩, ⟨zR⟩, ⟨zK⟩, ⟨zK⟩, ⟨zK⟩, ⟨zK⟩, ⟨zB⟩⟩
                       ·rw [if_neg c59] at H
                        exact absurd H (by simp)
                      ·rw [if_neg c58] at H
                       exact absurd H (by simp)
                     ·rw [if_neg c57] at H
                      exact absurd H (by simp)
                    ·rw [if_neg c54] at H
                     exact absurd H (by simp)
                   ·rw [if_neg c53] at H
                    have c53b0 : decide (x11_3 < (((rd_T89 l0_2 x9_2).f0).size : Int)) = false := decide_eq_false c53
                    clear c53
                    replace H := Option.bind_eq_some_iff.mp H
                    obtain ⟨⟨t273, t276⟩, A650, H⟩ := H
                    replace H : (spec_ExchangeLetters.l1 k3 l1 (wrap64 (x9_2 + 1)) a0_0 a0_1 l0_2 t257 t258 t273) = some (r1, r2, r3, r4) := H
                    have A65 := Aside0.mk A650
                    clear A650
                    have H' := Aside0.mk H
                    clear H
                    have hnb66 := NB249_250.out
                    have hnc66 := NB250_249.out
                    have hnb67 := NB249_252.out
                    have hnc67 := NB252_249.out
                    have hnb68 := NB249_262.out
                    have hnc68 := NB262_249.out
                    have hcz69_0 : wr.cell? ⟨gb249, 0, none⟩ = some (.int .i64 a0_0) := zE BK249
                    have hcz69_1 : wr.cell? ⟨gb249, 1, none⟩ = some (.int .i64 a0_1) := zE BK249
                    have hcz69_2 : wr.cell? ⟨gb249, 2, none⟩ = some (.slice A0_2 l0_2.length c0_2) := zE BK249
                    have hfz69_0 := blk_frozen BK249.out 0
                    have hfz69_1 := blk_frozen BK249.out 1
                    have hfz69_2 := blk_frozen BK249.out 2
                    have p266 : 0 ≤ (x9_2 : Int) := zD
                    have q266 : x9_2 < (l0_2.length : Int) := zD
                    obtain ⟨ad266, e266, hx266_0, hx266_1, hx266_2⟩ := at_T89 HR0_2.out x9_2 p266 q266
                    cases e266
                    replace hx266_0 := zH HB hx266_0
                    replace hx266_1 := zH HB hx266_1
                    replace hx266_2 := zH HB hx266_2
                    replace p266 := eq_true p266
                    replace q266 := eq_true q266
                    try go_wp2
                    have n0_ := Aside0.mk (Kd.R_drew HO_10.out)
                    have n1_ := Aside0.mk (Kd.R_drew HO_263002.out)
                    have n2_ := Aside0.mk (blk_drew BK249.out)
                    have n3_ := Aside0.mk (blk_drew BK250.out)
                    have n4_ := Aside0.mk (blk_drew BK252.out)
                    have n5_ := Aside0.mk (blk_drew BK262.out)
                    have n6_ := Aside0.mk (below_drew1 HB.out)
                    clear HO_10
                    clear HO_263002
                    clear BK249
                    clear BK250
                    clear BK252
                    clear BK262
                    clear HB
                    have HO_10 := n0_
                    have HO_263002 := n1_
                    have BK249 := n2_
                    have BK250 := n3_
                    have BK252 := n4_
                    have BK262 := n5_
                    have HB := n6_
                    clear n0_ n1_ n2_ n3_ n4_ n5_ n6_
                    have p272 : 0 ≤ (x9_2 : Int) := zD
                    have q272 : x9_2 < (l0_2.length : Int) := zD
                    obtain ⟨ad272, e272, hx272_0, hx272_1, hx272_2⟩ := at_T89 HR0_2.out x9_2 p272 q272
                    have hw272_2 := hx272_2
                    have hw272_1 := hx272_1
                    have hw272_0 := hx272_0
                    obtain rfl : ad266 = ad272 := (by injection e272)
                    replace hx272_0 := zH HB hx272_0
                    replace hx272_1 := zH HB hx272_1
                    replace hx272_2 := zH HB hx272_2
                    replace p272 := eq_true p272
                    replace q272 := eq_true q272
                    have hcv71 := own_string (P := Try.prog) Try.underlying112 Try.underlying5 Try.underlying9 (Kd.own_of_R HO_10.out)
                    obtain ⟨Ao72, co72, eo72⟩ := Kd.R_slice HO_263002.out
                    (first | subst eo72 | (injection eo72 with f1_ f2_ f3_; have f4_ := f1_.symm; have f5_ := f3_.symm; clear f1_ f2_ f3_; subst f4_; subst f5_))
                    refine start_ (n := 16) (S := fun w' => w'.cell? ⟨gb262, 0, none⟩ = some (.int .i64 t257) ∧ w'.cell? ⟨gb262, 1, none⟩ = some (.int .i64 t258) ∧ w'.cell? ⟨gb262, 2, none⟩ = some (.slice Ao72 x263002_2.length co72) ∧ w'.cell? ⟨gb249, 0, none⟩ = some (.int .i64 a0_0) ∧ w'.cell? ⟨gb249, 1, none⟩ = some (.int .i64 a0_1) ∧ w'.cell? ⟨gb249, 2, none⟩ = some (.slice (some ad266) l0_2.length c0_2) ∧ w'.cell? (ad266.add ((x9_2).toNat * 3)) = some (.string ((rd_T89 l0_2 x9_2).f0)) ∧ w'.cell? ⟨(ad266.add ((x9_2).toNat * 3)).block, (ad266.add ((x9_2).toNat * 3)).off + 1, none⟩ = some (.int .i64 ((rd_T89 l0_2 x9_2).f1.f0)) ∧ w'.cell? ⟨(ad266.add ((x9_2).toNat * 3)).block, (ad266.add ((x9_2).toNat * 3)).off + 2, none⟩ = some (.int .i64 ((rd_T89 l0_2 x9_2).f1.f1)) ∧ (convert 112 9 u10).run Try.prog w' = .ok (.string (strOfNums x10_3)) w') (ds := []) #[false, false, false, false, false, false, false, false, false, false, false, false, false, false, false, false] (by kernel_rfl) rfl rfl ⟨(blk_cell BK262.out 0).trans rfl, (blk_cell BK262.out 1).trans rfl, (blk_cell BK262.out 2).trans rfl, (blk_cell BK249.out 0).trans rfl, (blk_cell BK249.out 1).trans rfl, (blk_cell BK249.out 2).trans rfl, (zH HB hw272_0 :), (zH HB hw272_1 :), (zH HB hw272_2 :), own_string (P := Try.prog) Try.underlying112 Try.underlying5 Try.underlying9 (Kd.own_of_R HO_10.out)⟩ (fun hHeld => ?_); refine with_tabW spec_ExchangeLetters.tab21 spec_ExchangeLetters.bits21 (fun HT_ HW_ => ?_)
                    generalize wr.drew = w70 at HO_10 HO_263002 BK249 BK250 BK252 BK262 HB hx272_0 hx272_1 hx272_2 hHeld ⊢
                    refine zP 0 (N := some 93) (h := ?_)
                    refine zP 2 (N := some 95) (h := ?_)
                    refine zT 3 hHeld (N := some 96) (h := ?_)
                    refine zP 4 (N := some 97) (h := ?_)
                    refine zP 6 (N := some 99) (h := ?_)
                    refine zT 1 hHeld (N := some 94) (h := ?_)
                    refine zT 5 hHeld (N := some 98) (h := ?_)
                    refine zP 7 (N := some 100) (h := ?_)
                    refine zP 8 (N := some 101) (h := ?_)
                    refine zT 9 hHeld (N := some 102) (h := ?_)
                    refine one_ (i := 10) (N := some 103) #[true, true, true, true, true, true, true, true, true, true, true, false, false, false, false, false] rfl rfl (one_of HT_.out (by kernel_rfl)) (by decide) (fun K hK => ?_)
                    refine goes_ Try.func93 (by kernel_rfl) rfl #[.slice Ao72 x263002_2.length co72, .string (strOfNums x10_3), .agg #[.int .i64 ((rd_T89 l0_2 x9_2).f1.f0), .int .i64 ((rd_T89 l0_2 x9_2).f1.f1)]] (by rfl) rfl rfl zM ?_
                    with_reducible refine (spec_l01Put.calls k3 _ _ x263002_2 (strOfNums x10_3) ((rd_T89 l0_2 x9_2).f1.f0) ((rd_T89 l0_2 x9_2).f1.f1) t273 t276 _ ?side1 ?side2 A65.out).mono ?_
                    (case side1 => repeat (first | exact (Kd.R_reads' HO_263002.out).2.2 | (with_reducible refine Kd.C_alloc ?_ _) | (with_reducible refine Kd.C_drewN ?_ _) | (with_reducible refine Kd.C_drew ?_)))
                    (case side2 => exact (Kd.R_reads' HO_263002.out).2.1)
                    rintro e w73 ⟨v274, rfl, ho0, hb⟩
                    refine ⟨_, rfl, ?_⟩
                    have n0_ := Aside0.mk (Kd.R_below (by (with_reducible repeat (first | apply Kd.R_alloc | apply Kd.R_drewN | apply Kd.R_drew)); exact HO_10.out) hb)
                    have n1_ := Aside0.mk (Kd.R_elder' zR (Kd.R_base ho0) hb)
                    have n2_ := Aside0.mk (Kd.R_lower (Kd.R_new' ho0 (Kd.R_lt (by (with_reducible repeat (first | apply Kd.R_alloc | apply Kd.R_drewN | apply Kd.R_drew)); exact HO_263002.out))) (below_size zB))
                    have n3_ := Aside0.mk (blk_below (g := gb249) (o := .cells #[.int .i64 a0_0, .int .i64 a0_1, .slice (some ad266) l0_2.length c0_2] 32 (0, 0)) zK hb)
                    have n4_ := Aside0.mk (blk_below (g := gb250) (o := .cells #[.int .i64 x251000_1, .int .i64 x251001_1, .slice none 0 0] 32 (0, 0)) zK hb)
                    have n5_ := Aside0.mk (blk_below (g := gb252) (o := .cells (metC x253000_1) 110 (0, 0)) zK hb)
                    have n6_ := Aside0.mk (blk_below (g := gb262) (o := .cells #[.int .i64 t257, .int .i64 t258, .slice Ao72 x263002_2.length co72] 32 (0, 0)) zK hb)
                    have n7_ := Aside0.mk (below_step zB hb)
                    clear HO_10
                    clear HO_263002
                    clear BK249
                    clear BK250
                    clear BK252
                    clear BK262
                    clear HB
                    have HO_10 := n0_
                    have HO_263002 := n1_
                    have HO275 := n2_
                    have BK249 := n3_
                    have BK250 := n4_
                    have BK252 := n5_
                    have BK262 := n6_
                    have HB := n7_
                    clear n0_ n1_ n2_ n3_ n4_ n5_ n6_ n7_
                    (try clear hb)
                    (try clear hb2)
                    (try clear hk)
                    (try clear hi)
                    (try clear ho0)
                    refine hK.out _ _ ⟨(blk_cell BK262.out 0).trans rfl, (blk_cell BK262.out 1).trans rfl, (blk_cell BK262.out 2).trans rfl, (blk_cell BK249.out 0).trans rfl, (blk_cell BK249.out 1).trans rfl, (blk_cell BK249.out 2).trans rfl, (zH HB hw272_0 :), (zH HB hw272_1 :), (zH HB hw272_2 :), own_string (P := Try.prog) Try.underlying112 Try.underlying5 Try.underlying9 (Kd.own_of_R HO_10.out)⟩ (fun hHeld => ?_)
                    clear hK K
                    refine norm_ (a' := ?_) ?_ ?_
                    rotate_left
                    ·show Act.put _ (some 103) _ = _
                     simp only [Act.put, List.setIfInBounds_toArray, List.set_cons_zero, List.set_cons_succ, i64_w, i32_w]
                     rfl
                    refine zP 11 (N := some 92) (h := ?_)
                    refine zP 12 (N := some 104) (h := ?_)
                    refine zP 13 (N := some 105) (h := ?_)
                    refine zP 14 (N := some 12) (h := ?_)
                    refine zP 15 (N := some 13) (h := ?_)
                    refine done_ (done_of HT_.out (by kernel_rfl)) ?_
                    obtain ⟨Ao74, co74, eo74⟩ := Kd.R_slice HO275.out
                    subst eo74
                    have hnb75 := NB262_250.out
                    have hnc75 := NB250_262.out
                    have hnb76 := NB262_252.out
                    have hnc76 := NB252_262.out
                    have hcz77_0 : w73.cell? ⟨gb262, 0, none⟩ = some (.int .i64 t257) := zE BK262
                    have hcz77_1 : w73.cell? ⟨gb262, 1, none⟩ = some (.int .i64 t258) := zE BK262
                    have hcz77_2 : w73.cell? ⟨gb262, 2, none⟩ = some (.slice Ao72 x263002_2.length co72) := zE BK262
                    have hfz77_0 := blk_frozen BK262.out 0
                    have hfz77_1 := blk_frozen BK262.out 1
                    have hfz77_2 := blk_frozen BK262.out 2
                    try go_wp2
                    go_roundg k3
                    case measure => have := HK1.out; have := HK2.out; have := HK3.out; omega
                    case rel => exact ⟨(wrap64 (x9_2 + 1)), (t273), (.slice Ao74 t273.length co74), (by first | rfl | (simp; done) | (simp [*]; done)), H', ⟨by have := HK1.out; have := HK2.out; have := HK3.out; omega⟩, ⟨by (with_reducible repeat (first | apply Kd.R_alloc | apply Kd.R_drewN | apply Kd.R_drew)); exact Kd.R_mono (Kd.R_far (p := ⟨gb262, 2, none⟩) (Kd.R_types HO275.out BK262.out (by decide)) (fun _ hk => hk.2) (.slice Ao74 t273.length co74)) (fun _ hk => trivial)⟩, ⟨by (with_reducible repeat (first | refine blk_drewN ?_ _ | refine blk_drew ?_ | refine blk_alloc ?_ _)); refine blk_far ?_ NB249_262.out _; (with_reducible repeat (first | refine blk_drewN ?_ _ | refine blk_drew ?_ | refine blk_alloc ?_ _)); exact BK249.out⟩, ⟨by (with_reducible repeat (first | refine blk_drewN ?_ _ | refine blk_drew ?_ | refine blk_alloc ?_ _)); refine blk_far ?_ NB250_262.out _; (with_reducible repeat (first | refine blk_drewN ?_ _ | refine blk_drew ?_ | refine blk_alloc ?_ _)); exact BK250.out⟩, ⟨by (with_reducible repeat (first | refine blk_drewN ?_ _ | refine blk_drew ?_ | refine blk_alloc ?_ _)); refine blk_far ?_ NB252_262.out _; (with_reducible repeat (first | refine blk_drewN ?_ _ | refine blk_drew ?_ | refine blk_alloc ?_ _)); exact BK252.out⟩, ⟨by (with_reducible repeat (first | refine blk_drewN ?_ _ | refine blk_drew ?_ | refine blk_alloc ?_ _)); refine blk_put (cs := #[.int .i64 t257, .int .i64 t258, .slice Ao72 x263002_2.length co72]) ?_ 2 _ rfl; (with_reducible repeat (first | refine blk_drewN ?_ _ | refine blk_drew ?_ | refine blk_alloc ?_ _)); exact BK262.out⟩, ⟨zB⟩⟩
                  ·rw [if_neg c52] at H
                   exact absurd H (by simp)
                 ·rw [if_neg c51] at H
                  exact absurd H (by simp)
              ·rw [if_neg c44] at H
               have c44b0 : decide (x9_2 < (l0_2.length : Int)) = false := decide_eq_false c44
               clear c44
               simp only [Option.some.injEq, Prod.mk.injEq] at H
               obtain ⟨rfl, rfl, rfl, rfl⟩ := H
               have hnb78 := NB249_250.out
               have hnc78 := NB250_249.out
               have hnb79 := NB249_252.out
               have hnc79 := NB252_249.out
               have hnb80 := NB249_262.out
               have hnc80 := NB262_249.out
               have hcz81_0 : wr.cell? ⟨gb249, 0, none⟩ = some (.int .i64 a0_0) := zE BK249
               have hcz81_1 : wr.cell? ⟨gb249, 1, none⟩ = some (.int .i64 a0_1) := zE BK249
               have hcz81_2 : wr.cell? ⟨gb249, 2, none⟩ = some (.slice A0_2 l0_2.length c0_2) := zE BK249
               have hfz81_0 := blk_frozen BK249.out 0
               have hfz81_1 := blk_frozen BK249.out 1
               have hfz81_2 := blk_frozen BK249.out 2
               have hnb82 := NB262_250.out
               have hnc82 := NB250_262.out
               have hnb83 := NB262_252.out
               have hnc83 := NB252_262.out
               have hcz84_0 : wr.cell? ⟨gb262, 0, none⟩ = some (.int .i64 t257) := zE BK262
               have hcz84_1 : wr.cell? ⟨gb262, 1, none⟩ = some (.int .i64 t258) := zE BK262
               have hcz84_2 : wr.cell? ⟨gb262, 2, none⟩ = some (u263002) := zE BK262
               have hfz84_0 := blk_frozen BK262.out 0
               have hfz84_1 := blk_frozen BK262.out 1
               have hfz84_2 := blk_frozen BK262.out 2
               have hnb85 := NB250_252.out
               have hnc85 := NB252_250.out
               have hcz86_0 : wr.cell? ⟨gb250, 0, none⟩ = some (.int .i64 x251000_1) := zE BK250
               have hcz86_1 : wr.cell? ⟨gb250, 1, none⟩ = some (.int .i64 x251001_1) := zE BK250
               have hcz86_2 : wr.cell? ⟨gb250, 2, none⟩ = some (.slice none 0 0) := zE BK250
               have hfz86_0 := blk_frozen BK250.out 0
               have hfz86_1 := blk_frozen BK250.out 1
               have hfz86_2 := blk_frozen BK250.out 2
               obtain ⟨Ao87, co87, eo87⟩ := Kd.R_slice HO_263002.out
               subst eo87
               go_wp2
               refine bodyPost_ret (results_ct rfl _ _ gb250 32 #[.int .i64 t257, .int .i64 t258, .slice Ao87 x263002_2.length co87] (0, 0) _ rfl (by (with_reducible repeat (first | refine blk_drewN ?_ _ | refine blk_drew ?_ | refine blk_alloc ?_ _)); refine blk_put (cs := #[.int .i64 t257, .int .i64 t258, .slice none 0 0]) ?_ 2 _ rfl; (with_reducible repeat (first | refine blk_drewN ?_ _ | refine blk_drew ?_ | refine blk_alloc ?_ _)); refine blk_put (cs := #[.int .i64 t257, .int .i64 x251001_1, .slice none 0 0]) ?_ 1 _ rfl; (with_reducible repeat (first | refine blk_drewN ?_ _ | refine blk_drew ?_ | refine blk_alloc ?_ _)); refine blk_put (cs := #[.int .i64 x251000_1, .int .i64 x251001_1, .slice none 0 0]) ?_ 0 _ rfl; exact zK) Try.underlying32 rfl (by kernel_rfl)) rfl ?_
               exact ⟨_, by first | rfl | (simp [errW_none, errW_some] <;> rfl) | (simp [*, errW_none, errW_some] <;> rfl), by (with_reducible repeat (first | apply Kd.R_alloc | apply Kd.R_drewN | apply Kd.R_drew)); exact Kd.R_mono (Kd.R_far (p := ⟨gb250, 2, none⟩) (Kd.R_far (p := ⟨gb250, 1, none⟩) (Kd.R_far (p := ⟨gb250, 0, none⟩) (Kd.R_types HO_263002.out BK250.out (by decide)) (fun _ hk => hk.2) (.int .i64 t257)) (fun _ hk => hk.2) (.int .i64 t258)) (fun _ hk => hk.2) (.slice Ao87 x263002_2.length co87)) (fun _ hk => trivial), zB⟩
    · rw [if_neg c5] at H
      have c5b0 : ((l1.length : Int) == a0_0) = false := beq_eq_false_iff_ne.mpr c5
      have c5b1 : ((l1.length : Int) != a0_0) = true := bne_iff_ne.mpr c5
      simp only [Option.some.injEq, Prod.mk.injEq] at H
      obtain ⟨rfl, rfl, rfl, rfl⟩ := H
      go_enter Try.func41, Try.ntmps41
      go_wp2_with (first | ((with_reducible refine gate_dst (N := 2) rfl ?_); refine box_event ?hg (N := 2) ?hd (cs := #[.int .i64 a0_0, .int .i64 a0_1, .slice A0_2 l0_2.length c0_2]) (t := 32) ?hr ?_; (case hd => rfl); (case hg => rfl); (case hr => first | (go_simp; done) | (go_simp; rfl)); intro gb249 hg w88 hbox hb; have n0_ := Aside0.mk (below_step zB hb); have n1_ := Aside0.mk (hbox); have n2_ := Aside0.mk (zG : w.heap.size ≤ gb249); have n3_ := Aside0.mk (zG : w.heap.size ≤ gb249); clear HB; have HB := n0_; have BK249 := n1_; have GW249 := n2_; have GE249 := n3_; clear n0_ n1_ n2_ n3_; clear hb hbox hg) | ((with_reducible refine gate_dst (N := 4) rfl ?_); refine box_event ?hg (N := 4) ?hd (cs := #[.int .i64 0, .int .i64 0, .slice none 0 0]) (t := 32) ?hr ?_; (case hd => rfl); (case hg => rfl); (case hr => first | (go_simp; done) | (go_simp; rfl)); intro gb250 hg w89 hbox hb; have n0_ := Aside0.mk (blk_below (g := gb249) (o := .cells #[.int .i64 a0_0, .int .i64 a0_1, .slice A0_2 l0_2.length c0_2] 32 (0, 0)) zK hb); have n1_ := Aside0.mk (below_step zB hb); have n2_ := Aside0.mk (hbox); have n3_ := Aside0.mk (zG : w.heap.size ≤ gb250); have n4_ := Aside0.mk (zG : w.heap.size ≤ gb250); have n5_ := Aside0.mk ((by rw [hg]; exact Nat.ne_of_lt (blk_lt (g := gb249) (o := .cells #[.int .i64 a0_0, .int .i64 a0_1, .slice A0_2 l0_2.length c0_2] 32 (0, 0)) zK) : gb249 ≠ gb250)); have n6_ := Aside0.mk ((by rw [hg]; exact Nat.ne_of_gt (blk_lt (g := gb249) (o := .cells #[.int .i64 a0_0, .int .i64 a0_1, .slice A0_2 l0_2.length c0_2] 32 (0, 0)) zK) : gb250 ≠ gb249)); clear BK249; clear HB; have BK249 := n0_; have HB := n1_; have BK250 := n2_; have GW250 := n3_; have GE250 := n4_; have NB249_250 := n5_; have NB250_249 := n6_; clear n0_ n1_ n2_ n3_ n4_ n5_ n6_; clear hb hbox hg; have hnb90 := NB249_250.out; have hnc90 := NB250_249.out; have hcz91_0 : w89.cell? ⟨gb249, 0, none⟩ = some (.int .i64 a0_0) := zE BK249; have hcz91_1 : w89.cell? ⟨gb249, 1, none⟩ = some (.int .i64 a0_1) := zE BK249; have hcz91_2 : w89.cell? ⟨gb249, 2, none⟩ = some (.slice A0_2 l0_2.length c0_2) := zE BK249; have hfz91_0 := blk_frozen BK249.out 0; have hfz91_1 := blk_frozen BK249.out 1; have hfz91_2 := blk_frozen BK249.out 2) | ((with_reducible refine gate_callee (f := 52) rfl ?_); refine goesL_ (some 15) rfl rfl Try.func52 (by kernel_rfl) rfl #[.agg #[.int .i64 a0_0, .int .i64 a0_1, .slice A0_2 l0_2.length c0_2]] rfl zM ?_; (with_reducible refine (spec_l01Is.calls k a0_0 a0_1 _ _ l0_2 true _ ?side1 ?side2 A3.out).mono ?_); (case side1 => repeat (first | exact (Kd.C_below HR0_2.out HB.out) | (with_reducible refine Kd.C_alloc ?_ _) | (with_reducible refine Kd.C_drewN ?_ _) | (with_reducible refine Kd.C_drew ?_))); (case side2 => exact HC0_2.out); rintro e w92 ⟨rfl, hb⟩; refine ⟨_, rfl, ?_⟩; have n0_ := Aside0.mk (blk_below (g := gb249) (o := .cells #[.int .i64 a0_0, .int .i64 a0_1, .slice A0_2 l0_2.length c0_2] 32 (0, 0)) zK hb); have n1_ := Aside0.mk (blk_below (g := gb250) (o := .cells #[.int .i64 0, .int .i64 0, .slice none 0 0] 32 (0, 0)) zK hb); have n2_ := Aside0.mk (below_step zB hb); clear BK249; clear BK250; clear HB; have BK249 := n0_; have BK250 := n1_; have HB := n2_; clear n0_ n1_ n2_; (try clear hb); (try clear hb2); (try clear hk); (try clear hi)) | ((with_reducible refine gate_dst (N := 6) rfl ?_); refine box_event ?hg (N := 6) ?hd (cs := #[.bool false, .bool false, .bool false]) (t := 110) ?hr ?_; (case hd => rfl); (case hg => rfl); (case hr => first | (go_simp; done) | (go_simp; rfl)); intro gb252 hg w93 hbox hb; have n0_ := Aside0.mk (blk_below (g := gb249) (o := .cells #[.int .i64 a0_0, .int .i64 a0_1, .slice A0_2 l0_2.length c0_2] 32 (0, 0)) zK hb); have n1_ := Aside0.mk (blk_below (g := gb250) (o := .cells #[.int .i64 0, .int .i64 0, .slice none 0 0] 32 (0, 0)) zK hb); have n2_ := Aside0.mk (below_step zB hb); have n3_ := Aside0.mk (hbox); have n4_ := Aside0.mk (zG : w.heap.size ≤ gb252); have n5_ := Aside0.mk (zG : w.heap.size ≤ gb252); have n6_ := Aside0.mk ((by rw [hg]; exact Nat.ne_of_lt (blk_lt (g := gb249) (o := .cells #[.int .i64 a0_0, .int .i64 a0_1, .slice A0_2 l0_2.length c0_2] 32 (0, 0)) zK) : gb249 ≠ gb252)); have n7_ := Aside0.mk ((by rw [hg]; exact Nat.ne_of_gt (blk_lt (g := gb249) (o := .cells #[.int .i64 a0_0, .int .i64 a0_1, .slice A0_2 l0_2.length c0_2] 32 (0, 0)) zK) : gb252 ≠ gb249)); have n8_ := Aside0.mk ((by rw [hg]; exact Nat.ne_of_lt (blk_lt (g := gb250) (o := .cells #[.int .i64 0, .int .i64 0, .slice none 0 0] 32 (0, 0)) zK) : gb250 ≠ gb252)); have n9_ := Aside0.mk ((by rw [hg]; exact Nat.ne_of_gt (blk_lt (g := gb250) (o := .cells #[.int .i64 0, .int .i64 0, .slice none 0 0] 32 (0, 0)) zK) : gb252 ≠ gb250)); clear BK249; clear BK250; clear HB; have BK249 := n0_; have BK250 := n1_; have HB := n2_; have BK252 := n3_; have GW252 := n4_; have GE252 := n5_; have NB249_252 := n6_; have NB252_249 := n7_; have NB250_252 := n8_; have NB252_250 := n9_; clear n0_ n1_ n2_ n3_ n4_ n5_ n6_ n7_ n8_ n9_; clear hb hbox hg; have hnb94 := NB252_249.out; have hnc94 := NB249_252.out; have hnb95 := NB252_250.out; have hnc95 := NB250_252.out; have hcz96_0 : w93.cell? ⟨gb252, 0, none⟩ = some (.bool false) := zE BK252; have hcz96_1 : w93.cell? ⟨gb252, 1, none⟩ = some (.bool false) := zE BK252; have hcz96_2 : w93.cell? ⟨gb252, 2, none⟩ = some (.bool false) := zE BK252; have hfz96_0 := blk_frozen BK252.out 0; have hfz96_1 := blk_frozen BK252.out 1; have hfz96_2 := blk_frozen BK252.out 2; have hcz97_0 : w93.cell? ⟨gb249, 0, none⟩ = some (.int .i64 a0_0) := zE BK249; have hcz97_1 : w93.cell? ⟨gb249, 1, none⟩ = some (.int .i64 a0_1) := zE BK249; have hcz97_2 : w93.cell? ⟨gb249, 2, none⟩ = some (.slice A0_2 l0_2.length c0_2) := zE BK249; have hfz97_0 := blk_frozen BK249.out 0; have hfz97_1 := blk_frozen BK249.out 1; have hfz97_2 := blk_frozen BK249.out 2; have hcz98_0 : w93.cell? ⟨gb250, 0, none⟩ = some (.int .i64 0) := zE BK250; have hcz98_1 : w93.cell? ⟨gb250, 1, none⟩ = some (.int .i64 0) := zE BK250; have hcz98_2 : w93.cell? ⟨gb250, 2, none⟩ = some (.slice none 0 0) := zE BK250; have hfz98_0 := blk_frozen BK250.out 0; have hfz98_1 := blk_frozen BK250.out 1; have hfz98_2 := blk_frozen BK250.out 2))
      refine bodyPost_ret (results_ct rfl _ _ gb250 32 #[.int .i64 0, .int .i64 0, .slice none 0 0] (0, 0) _ rfl (by (with_reducible repeat (first | refine blk_drewN ?_ _ | refine blk_drew ?_ | refine blk_alloc ?_ _)); refine blk_put (cs := #[.int .i64 0, .int .i64 0, .slice none 0 0]) ?_ 2 _ rfl; (with_reducible repeat (first | refine blk_drewN ?_ _ | refine blk_drew ?_ | refine blk_alloc ?_ _)); refine blk_put (cs := #[.int .i64 0, .int .i64 0, .slice none 0 0]) ?_ 1 _ rfl; (with_reducible repeat (first | refine blk_drewN ?_ _ | refine blk_drew ?_ | refine blk_alloc ?_ _)); refine blk_put (cs := #[.int .i64 0, .int .i64 0, .slice none 0 0]) ?_ 0 _ rfl; (with_reducible repeat (first | refine blk_drewN ?_ _ | refine blk_drew ?_ | refine blk_alloc ?_ _)); refine blk_far ?_ NB250_252.out _; (with_reducible repeat (first | refine blk_drewN ?_ _ | refine blk_drew ?_ | refine blk_alloc ?_ _)); refine blk_far ?_ NB250_252.out _; (with_reducible repeat (first | refine blk_drewN ?_ _ | refine blk_drew ?_ | refine blk_alloc ?_ _)); refine blk_far ?_ NB250_252.out _; exact zK) Try.underlying32 rfl (by kernel_rfl)) rfl ?_
      exact ⟨_, by first | rfl | (simp [errW_none, errW_some] <;> rfl) | (simp [*, errW_none, errW_some] <;> rfl), by first | exact Kd.R_nil _ _ _ _ _ | exact Kd.N_nil _ _ _ _ _ | exact Kd.V_nil _ _ _ _ _ | exact Kd.Q_nil _ _ _ _ _ | exact Kd.S_nil _ _ _ _ _, zB⟩
  · replace c4 := Bool.eq_false_iff.mpr c4
    subst c4
    have H1 : (some (0, 0, ([] : List (S89)), 1)) = some (r1, r2, r3, r4) := by rw [if_neg (show ¬ (false = true) by decide)] at H; exact H
    clear H
    have H := H1
    clear H1
    simp only [Option.some.injEq, Prod.mk.injEq] at H
    obtain ⟨rfl, rfl, rfl, rfl⟩ := H
    go_enter Try.func41, Try.ntmps41
    go_wp2_with (first | ((with_reducible refine gate_dst (N := 2) rfl ?_); refine box_event ?hg (N := 2) ?hd (cs := #[.int .i64 a0_0, .int .i64 a0_1, .slice A0_2 l0_2.length c0_2]) (t := 32) ?hr ?_; (case hd => rfl); (case hg => rfl); (case hr => first | (go_simp; done) | (go_simp; rfl)); intro gb249 hg w99 hbox hb; have n0_ := Aside0.mk (below_step zB hb); have n1_ := Aside0.mk (hbox); have n2_ := Aside0.mk (zG : w.heap.size ≤ gb249); have n3_ := Aside0.mk (zG : w.heap.size ≤ gb249); clear HB; have HB := n0_; have BK249 := n1_; have GW249 := n2_; have GE249 := n3_; clear n0_ n1_ n2_ n3_; clear hb hbox hg) | ((with_reducible refine gate_dst (N := 4) rfl ?_); refine box_event ?hg (N := 4) ?hd (cs := #[.int .i64 0, .int .i64 0, .slice none 0 0]) (t := 32) ?hr ?_; (case hd => rfl); (case hg => rfl); (case hr => first | (go_simp; done) | (go_simp; rfl)); intro gb250 hg w100 hbox hb; have n0_ := Aside0.mk (blk_below (g := gb249) (o := .cells #[.int .i64 a0_0, .int .i64 a0_1, .slice A0_2 l0_2.length c0_2] 32 (0, 0)) zK hb); have n1_ := Aside0.mk (below_step zB hb); have n2_ := Aside0.mk (hbox); have n3_ := Aside0.mk (zG : w.heap.size ≤ gb250); have n4_ := Aside0.mk (zG : w.heap.size ≤ gb250); have n5_ := Aside0.mk ((by rw [hg]; exact Nat.ne_of_lt (blk_lt (g := gb249) (o := .cells #[.int .i64 a0_0, .int .i64 a0_1, .slice A0_2 l0_2.length c0_2] 32 (0, 0)) zK) : gb249 ≠ gb250)); have n6_ := Aside0.mk ((by rw [hg]; exact Nat.ne_of_gt (blk_lt (g := gb249) (o := .cells #[.int .i64 a0_0, .int .i64 a0_1, .slice A0_2 l0_2.length c0_2] 32 (0, 0)) zK) : gb250 ≠ gb249)); clear BK249; clear HB; have BK249 := n0_; have HB := n1_; have BK250 := n2_; have GW250 := n3_; have GE250 := n4_; have NB249_250 := n5_; have NB250_249 := n6_; clear n0_ n1_ n2_ n3_ n4_ n5_ n6_; clear hb hbox hg; have hnb101 := NB249_250.out; have hnc101 := NB250_249.out; have hcz102_0 : w100.cell? ⟨gb249, 0, none⟩ = some (.int .i64 a0_0) := zE BK249; have hcz102_1 : w100.cell? ⟨gb249, 1, none⟩ = some (.int .i64 a0_1) := zE BK249; have hcz102_2 : w100.cell? ⟨gb249, 2, none⟩ = some (.slice A0_2 l0_2.length c0_2) := zE BK249; have hfz102_0 := blk_frozen BK249.out 0; have hfz102_1 := blk_frozen BK249.out 1; have hfz102_2 := blk_frozen BK249.out 2) | ((with_reducible refine gate_callee (f := 52) rfl ?_); refine goesL_ (some 15) rfl rfl Try.func52 (by kernel_rfl) rfl #[.agg #[.int .i64 a0_0, .int .i64 a0_1, .slice A0_2 l0_2.length c0_2]] rfl zM ?_; (with_reducible refine (spec_l01Is.calls k a0_0 a0_1 _ _ l0_2 false _ ?side1 ?side2 A3.out).mono ?_); (case side1 => repeat (first | exact (Kd.C_below HR0_2.out HB.out) | (with_reducible refine Kd.C_alloc ?_ _) | (with_reducible refine Kd.C_drewN ?_ _) | (with_reducible refine Kd.C_drew ?_))); (case side2 => exact HC0_2.out); rintro e w103 ⟨rfl, hb⟩; refine ⟨_, rfl, ?_⟩; have n0_ := Aside0.mk (blk_below (g := gb249) (o := .cells #[.int .i64 a0_0, .int .i64 a0_1, .slice A0_2 l0_2.length c0_2] 32 (0, 0)) zK hb); have n1_ := Aside0.mk (blk_below (g := gb250) (o := .cells #[.int .i64 0, .int .i64 0, .slice none 0 0] 32 (0, 0)) zK hb); have n2_ := Aside0.mk (below_step zB hb); clear BK249; clear BK250; clear HB; have BK249 := n0_; have BK250 := n1_; have HB := n2_; clear n0_ n1_ n2_; (try clear hb); (try clear hb2); (try clear hk); (try clear hi); have hcz104_0 : w103.cell? ⟨gb250, 0, none⟩ = some (.int .i64 0) := zE BK250; have hcz104_1 : w103.cell? ⟨gb250, 1, none⟩ = some (.int .i64 0) := zE BK250; have hcz104_2 : w103.cell? ⟨gb250, 2, none⟩ = some (.slice none 0 0) := zE BK250; have hfz104_0 := blk_frozen BK250.out 0; have hfz104_1 := blk_frozen BK250.out 1; have hfz104_2 := blk_frozen BK250.out 2))
    refine bodyPost_ret (results_ct rfl _ _ gb250 32 #[.int .i64 0, .int .i64 0, .slice none 0 0] (0, 0) _ rfl (by (with_reducible repeat (first | refine blk_drewN ?_ _ | refine blk_drew ?_ | refine blk_alloc ?_ _)); refine blk_put (cs := #[.int .i64 0, .int .i64 0, .slice none 0 0]) ?_ 2 _ rfl; (with_reducible repeat (first | refine blk_drewN ?_ _ | refine blk_drew ?_ | refine blk_alloc ?_ _)); refine blk_put (cs := #[.int .i64 0, .int .i64 0, .slice none 0 0]) ?_ 1 _ rfl; (with_reducible repeat (first | refine blk_drewN ?_ _ | refine blk_drew ?_ | refine blk_alloc ?_ _)); refine blk_put (cs := #[.int .i64 0, .int .i64 0, .slice none 0 0]) ?_ 0 _ rfl; exact zK) Try.underlying32 rfl (by kernel_rfl)) rfl ?_
    exact ⟨_, by first | rfl | (simp [errW_none, errW_some] <;> rfl) | (simp [*, errW_none, errW_some] <;> rfl), by first | exact Kd.R_nil _ _ _ _ _ | exact Kd.N_nil _ _ _ _ _ | exact Kd.V_nil _ _ _ _ _ | exact Kd.Q_nil _ _ _ _ _ | exact Kd.S_nil _ _ _ _ _, zB⟩

end Go.Proofs.Ytcklefgkbddlhaa.P
