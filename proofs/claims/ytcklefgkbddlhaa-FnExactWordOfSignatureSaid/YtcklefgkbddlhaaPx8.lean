/- What a call of each Go function named below comes to is what the plain Lean function beside it says. Made by a program of this session out of the print of the translation; Lean checks it. -/
import Derived.Test.YtcklefgkbddlhaaPx0
import Derived.Test.YtcklefgkbddlhaaPx5
import Derived.Test.YtcklefgkbddlhaaPx6
import Derived.Test.YtcklefgkbddlhaaPx7
namespace Go.Proofs.Ytcklefgkbddlhaa.P
open Go.RowKit Go.Proofs.YtcklefgkbddlhaaW.PrintWords Go.Proofs.YtcklefgkbddlhaaW.PrintLast Go.Proofs.YtcklefgkbddlhaaW.PrintMore
attribute [local go_sem] max2_int min2_int max_two min_two max_three min_three max_four min_four   -- for this text's walks alone
set_option linter.unusedVariables false
set_option linter.unusedSimpArgs false


/-! ### spec_l09Step: function 84 -/
mutual
def spec_l09Step.j0 : Nat → ByteArray → Int → Int → Int → List (S89) → Int → Int → List (S89) → Option (Int × Int × (List (S89)))
 | 0, _, _, _, _, _, _, _, _ => none
 | k + 1, x6, x7, x253000, x253001, x253002, x263000, x263001, x263002 => spec_l09Step.l0 k x6 x7 0 x253000 x253001 x253002 x263000 x263001 x263002
def spec_l09Step.l0 : Nat → ByteArray → Int → Int → Int → Int → List (S89) → Int → Int → List (S89) → Option (Int × Int × (List (S89)))
 | 0, _, _, _, _, _, _, _, _, _ => none
 | k + 1, x6, x7, x8, x253000, x253001, x253002, x263000, x263001, x263002 => if x8 < (x253002.length : Int) then (if 0 ≤ x8 then (spec_l09Step.l1 k x6 x7 x8 ((rd_T89 x253002 x8).f0) 1 x253000 x253001 x253002 x263000 x263001 x263002 ((rd_T89 x253002 x8).f1.f0) ((rd_T89 x253002 x8).f1.f1)) else (none)) else (some (x263000, x263001, x263002))
def spec_l09Step.l1 : Nat → ByteArray → Int → Int → ByteArray → Int → Int → Int → List (S89) → Int → Int → List (S89) → Int → Int → Option (Int × Int × (List (S89)))
 | 0, _, _, _, _, _, _, _, _, _, _, _, _, _ => none
 | k + 1, x6, x7, x8, x9, x11, x253000, x253001, x253002, x263000, x263001, x263002, x266000, x266001 => if (x9.size : Int) ≤ x253001 then ((spec_l01Put.f k x263002 x9 x266000 x266001).bind fun bt266 => (if x9.size + x6.size ≤ 9223372036854775807 then ((spec_l01Frac.f k (wrap64 (x266000 * x7)) (wrap64 (x266001 * x11))).bind fun bt270 => (spec_l09Step.l1 k x6 x7 x8 (x9 ++ x6) (wrap64 (x11 + 1)) x253000 x253001 x253002 x263000 x263001 bt266.1 bt270.1 bt270.2.1)) else (none))) else (spec_l09Step.l0 k x6 x7 (wrap64 (x8 + 1)) x253000 x253001 x253002 x263000 x263001 x263002)
end
def spec_l09Step.f (k : Nat) (a0_0 : Int) (a0_1 : Int) (l0_2 : List (S89)) (a1 : Int) : Option (Int × Int × (List (S89))) := (spec_l01Empty.f a0_0 a0_1 l0_2).bind fun bt254 => ((some (([(wrap64 ((wrap64 (48 + (mx a1 (wrap64 (-a1))))) - 1)) % 256] : List Int) : List Int)).bind fun y259 => (if a1 < 0 then (spec_l09Step.j0 k (strOfNums y259) (-1) a0_0 a0_1 l0_2 bt254.1 bt254.2.1 bt254.2.2) else (spec_l09Step.j0 k (strOfNums y259) 1 a0_0 a0_1 l0_2 bt254.1 bt254.2.1 bt254.2.2)))
def spec_l09Step.T1 : Bool × List (List Nat × List Nat) := (true, [([], []), ([0], [0]), ([], []), ([], []), ([3], [3]), ([2, 4], [2, 4]), ([5], [5]), ([6], [6]), ([7], [7]), ([8], [8]), ([9], [9]), ([], []), ([11, 1, 1, 0, 1, 11], [1, 11]), ([10, 12, 0, 1, 2, 3, 4, 5, 6, 7, 8, 9, 10, 11, 12], [10]), ([13, 0, 1, 2, 3, 4, 5, 6, 7, 8, 9, 10, 11, 12, 13], [])])
def spec_l09Step.B1 : List Nat := [0, 1, 0, 0, 8, 28, 60, 124, 252, 508, 1020, 0, 2051, 8191, 16383]
theorem spec_l09Step.tab1 : rtab .any (opsOf Try.f84 1) = spec_l09Step.T1 := by kernel_rfl
theorem spec_l09Step.bits1 : waitsOk spec_l09Step.T1.2 spec_l09Step.B1 = true := by kernel_rfl
def spec_l09Step.T7 : Bool × List (List Nat × List Nat) := (true, [([], []), ([0], [0]), ([], []), ([1, 2], [1, 2]), ([3], [3]), ([4], [4]), ([], []), ([6], [6]), ([], []), ([7, 8], [7, 8]), ([9], [9]), ([10], [10]), ([], []), ([5, 0, 1, 2, 3, 4, 5, 12], [5]), ([12, 11, 13, 0, 1, 2, 3, 4, 5, 6, 7, 8, 9, 10, 11, 12, 13], [11, 12])])
def spec_l09Step.B7 : List Nat := [0, 1, 0, 7, 15, 31, 0, 64, 0, 448, 960, 1984, 0, 4159, 16383]
theorem spec_l09Step.tab7 : rtab .any (opsOf Try.f84 7) = spec_l09Step.T7 := by kernel_rfl
theorem spec_l09Step.bits7 : waitsOk spec_l09Step.T7.2 spec_l09Step.B7 = true := by kernel_rfl
set_option maxHeartbeats 8000000 in
set_option maxRecDepth 100000 in
theorem spec_l09Step.calls (k : Nat) (a0_0 : Int) (a0_1 : Int) (A0_2 : Option Addr) (c0_2 : Nat) (l0_2 : List (S89)) (a1 : Int) (r1 : Int) (r2 : Int) (r3 : List (S89)) (w : World) (hr0_2 : Kd.C k89 w A0_2 l0_2.length l0_2) (hc0_2 : l0_2.length ≤ c0_2) (h : spec_l09Step.f k a0_0 a0_1 l0_2 a1 = some (r1, r2, r3)) :
 Calls Try.prog 84 #[.agg #[.int .i64 a0_0, .int .i64 a0_1, .slice A0_2 l0_2.length c0_2], .int .i64 a1] w fun e w' => ∃ v2_ : Value, e = .returned (.agg #[.int .i64 r1, .int .i64 r2, v2_]) ∧ Kd.R k89 89 w' w.heap.size (fun _ => True) v2_ r3 ∧ Below w.heap.size w w' := by
 have hu32 := Try.underlying32
 have hu27 := Try.underlying27
 have HR0_2 := zA hr0_2
 have HC0_2 := zA hc0_2
 clear hr0_2 hc0_2
 have HB := zA (Below.refl w.heap.size w)
 have H : ((spec_l01Empty.f a0_0 a0_1 l0_2).bind fun bt254 => ((some (([(wrap64 ((wrap64 (48 + (mx a1 (wrap64 (-a1))))) - 1)) % 256] : List Int) : List Int)).bind fun y259 => (if a1 < 0 then (spec_l09Step.j0 k (strOfNums y259) (-1) a0_0 a0_1 l0_2 bt254.1 bt254.2.1 bt254.2.2) else (spec_l09Step.j0 k (strOfNums y259) 1 a0_0 a0_1 l0_2 bt254.1 bt254.2.1 bt254.2.2)))) = some (r1, r2, r3) := h
 clear h
 replace H := Option.bind_eq_some_iff.mp H
 obtain ⟨⟨t254, t255, t256⟩, A30, H⟩ := H
 replace H : ((some (([(wrap64 ((wrap64 (48 + (mx a1 (wrap64 (-a1))))) - 1)) % 256] : List Int) : List Int)).bind fun y259 => (if a1 < 0 then (spec_l09Step.j0 k (strOfNums y259) (-1) a0_0 a0_1 l0_2 t254 t255 t256) else (spec_l09Step.j0 k (strOfNums y259) 1 a0_0 a0_1 l0_2 t254 t255 t256))) = some (r1, r2, r3) := H
 have A3 := zA A30
 clear A30
 obtain ⟨ji4, hji4⟩ : ∃ j_ : Int, (mx a1 (wrap64 (-a1))) = j_ := ⟨_, rfl⟩
 replace H : ((some (([(wrap64 ((wrap64 (48 + (ji4))) - 1)) % 256] : List Int) : List Int)).bind fun y259 => (if a1 < 0 then (spec_l09Step.j0 k (strOfNums y259) (-1) a0_0 a0_1 l0_2 t254 t255 t256) else (spec_l09Step.j0 k (strOfNums y259) 1 a0_0 a0_1 l0_2 t254 t255 t256))) = some (r1, r2, r3) := by (rw [hji4] at H; exact H)
 (try rw [hji4] at A3)
 have hji4_ : (if a1 < (wrap64 (-a1)) then (wrap64 (-a1)) else a1) = ji4 := hji4
 obtain ⟨y259, hy259⟩ : ∃ y_ : List Int, y_ = (([(wrap64 ((wrap64 (48 + (ji4))) - 1)) % 256] : List Int)) := ⟨_, rfl⟩
 replace H : (if a1 < 0 then (spec_l09Step.j0 k (strOfNums y259) (-1) a0_0 a0_1 l0_2 t254 t255 t256) else (spec_l09Step.j0 k (strOfNums y259) 1 a0_0 a0_1 l0_2 t254 t255 t256)) = some (r1, r2, r3) := by (have H2_ := (Option.bind_some _ _).symm.trans H; rw [hy259]; with_reducible exact H2_)
 have Ny259 := zA hy259
 clear hy259
 have HC5 := zA H
 clear H
 go_enter Try.func84, Try.ntmps84
 try go_wp2_with (first | ((with_reducible refine gate_dst (N := 2) rfl ?_); refine zX 2 (#[.int .i64 a0_0, .int .i64 a0_1, .slice A0_2 l0_2.length c0_2]) 32 ?_; intro gb252 hg w6 hbox hb; have BK252 := zA (hbox); have GW252 := zA (zG : w.heap.size ≤ gb252); have GE252 := zA (zG : w.heap.size ≤ gb252); replace HB := zA (below_step zB hb); clear hb hbox hg) | ((with_reducible refine gate_dst (N := 4) rfl ?_); refine zX 4 (#[.int .i64 0, .int .i64 0, .slice none 0 0]) 32 ?_; intro gb253 hg w7 hbox hb; have BK253 := zA (hbox); have GW253 := zA (zG : w.heap.size ≤ gb253); have GE253 := zA (zG : w.heap.size ≤ gb253); have NB252_253 := zA (zU BK252 hg); have NB253_252 := zA (zV BK252 hg); replace BK252 := zA (zW BK252 hb); replace HB := zA (below_step zB hb); clear hb hbox hg))
 replace BK252 := zA (blk_drew BK252.out)
 replace BK253 := zA (blk_drew BK253.out)
 replace HB := zA (below_drew1 HB.out)
 refine start_ (n := 15) (S := fun w' => w'.cell? ⟨gb252, 0, none⟩ = some (.int .i64 a0_0) ∧ w'.cell? ⟨gb252, 1, none⟩ = some (.int .i64 a0_1) ∧ w'.cell? ⟨gb252, 2, none⟩ = some (.slice A0_2 l0_2.length c0_2)) (ds := []) #[false, false, false, false, false, false, false, false, false, false, false, false, false, false, false] (by kernel_rfl) rfl rfl ⟨(blk_cell BK252.out 0).trans rfl, (blk_cell BK252.out 1).trans rfl, (blk_cell BK252.out 2).trans rfl⟩ (fun hHeld => ?_); refine with_tabW spec_l09Step.tab1 spec_l09Step.bits1 (fun HT_ HW_ => ?_)
 generalize w7.drew = w8 at BK252 BK253 HB hHeld ⊢
 refine zP 2 (N := some 18) (h := ?_)
 refine zP 3 (N := some 19) (h := ?_)
 refine zP 4 (N := some 20) (h := ?_)
 refine zP 5 (N := some 21) (h := ?_)
 refine zP 6 (N := some 22) (h := ?_)
 refine zP 7 (N := some 23) (h := ?_)
 refine zP 8 (N := some 24) (h := ?_)
 refine zT 0 hHeld (N := some 16) (h := ?_)
 refine join_ (σ := Value × Value × Nat) 2 #[true, true, true, true, true, true, true, true, true, true, true, true, true, false, false] (fun s_ => [(17, .agg #[.int .i64 t254, .int .i64 t255, s_.1]), (25, s_.2.1), (26, .string (strOfNums y259)), (5, .pointer (some ⟨s_.2.2, 0, none⟩))]) (fun s_ w' => (w'.cell? ⟨gb252, 0, none⟩ = some (.int .i64 a0_0) ∧ w'.cell? ⟨gb252, 1, none⟩ = some (.int .i64 a0_1) ∧ w'.cell? ⟨gb252, 2, none⟩ = some (.slice A0_2 l0_2.length c0_2)) ∧ (Kd.R k89 89 w' w.heap.size (fun _ => True) s_.1 t256) ∧ (Kd.R (Kd.int .u8) 5 w' w.heap.size (fun _ => True) s_.2.1 y259) ∧ (w'.heap[gb252]? = some (.cells #[.int .i64 a0_0, .int .i64 a0_1, .slice A0_2 l0_2.length c0_2] 32 (0, 0))) ∧ (w'.heap[gb253]? = some (.cells #[.int .i64 0, .int .i64 0, .slice none 0 0] 32 (0, 0))) ∧ (w'.heap[s_.2.2]? = some (.cells #[.int .i64 t254, .int .i64 t255, s_.1] 32 (0, 0))) ∧ (w.heap.size ≤ s_.2.2) ∧ (w.heap.size ≤ s_.2.2) ∧ (gb252 ≠ s_.2.2) ∧ (s_.2.2 ≠ gb252) ∧ (gb253 ≠ s_.2.2) ∧ (s_.2.2 ≠ gb253) ∧ (Below w.heap.size w w')) ?_ ?_
 rotate_left
 ·intro hJ1_9_10_11_12
  refine join_ (σ := Value × Value × Nat) 3 #[true, true, true, true, true, true, true, true, true, true, true, true, false, false, false] (fun s_ => [(17, .agg #[.int .i64 t254, .int .i64 t255, s_.1]), (25, s_.2.1), (26, .string (strOfNums y259)), (5, .pointer (some ⟨s_.2.2, 0, none⟩))]) (fun s_ w' => (w'.cell? ⟨gb252, 0, none⟩ = some (.int .i64 a0_0) ∧ w'.cell? ⟨gb252, 1, none⟩ = some (.int .i64 a0_1) ∧ w'.cell? ⟨gb252, 2, none⟩ = some (.slice A0_2 l0_2.length c0_2)) ∧ (Kd.R k89 89 w' w.heap.size (fun _ => True) s_.1 t256) ∧ (Kd.R (Kd.int .u8) 5 w' w.heap.size (fun _ => True) s_.2.1 y259) ∧ (w'.heap[gb252]? = some (.cells #[.int .i64 a0_0, .int .i64 a0_1, .slice A0_2 l0_2.length c0_2] 32 (0, 0))) ∧ (w'.heap[gb253]? = some (.cells #[.int .i64 0, .int .i64 0, .slice none 0 0] 32 (0, 0))) ∧ (w'.heap[s_.2.2]? = some (.cells #[.int .i64 0, .int .i64 0, .slice none 0 0] 32 (0, 0))) ∧ (w.heap.size ≤ s_.2.2) ∧ (w.heap.size ≤ s_.2.2) ∧ (gb252 ≠ s_.2.2) ∧ (s_.2.2 ≠ gb252) ∧ (gb253 ≠ s_.2.2) ∧ (s_.2.2 ≠ gb253) ∧ (Below w.heap.size w w')) ?_ ?_
  rotate_left
  ·intro hJ1_9_10_11
   refine join_ (σ := Value × Value × Nat) 3 #[true, true, true, true, true, true, true, true, true, true, false, true, true, false, false] (fun s_ => [(17, .agg #[.int .i64 t254, .int .i64 t255, s_.1]), (25, s_.2.1), (5, .pointer (some ⟨s_.2.2, 0, none⟩))]) (fun s_ w' => (w'.cell? ⟨gb252, 0, none⟩ = some (.int .i64 a0_0) ∧ w'.cell? ⟨gb252, 1, none⟩ = some (.int .i64 a0_1) ∧ w'.cell? ⟨gb252, 2, none⟩ = some (.slice A0_2 l0_2.length c0_2)) ∧ (Kd.R k89 89 w' w.heap.size (fun _ => True) s_.1 t256) ∧ (Kd.R (Kd.int .u8) 5 w' w.heap.size (fun _ => True) s_.2.1 y259) ∧ (w'.heap[gb252]? = some (.cells #[.int .i64 a0_0, .int .i64 a0_1, .slice A0_2 l0_2.length c0_2] 32 (0, 0))) ∧ (w'.heap[gb253]? = some (.cells #[.int .i64 0, .int .i64 0, .slice none 0 0] 32 (0, 0))) ∧ (w'.heap[s_.2.2]? = some (.cells #[.int .i64 t254, .int .i64 t255, s_.1] 32 (0, 0))) ∧ (w.heap.size ≤ s_.2.2) ∧ (w.heap.size ≤ s_.2.2) ∧ (gb252 ≠ s_.2.2) ∧ (s_.2.2 ≠ gb252) ∧ (gb253 ≠ s_.2.2) ∧ (s_.2.2 ≠ gb253) ∧ (Below w.heap.size w w')) ?_ ?_
   rotate_left
   ·intro hJ1_9_11_12
    refine join_ (σ := Value × Value) 4 #[true, true, true, true, true, true, true, true, true, true, true, false, false, false, false] (fun s_ => [(17, .agg #[.int .i64 t254, .int .i64 t255, s_.1]), (25, s_.2), (26, .string (strOfNums y259))]) (fun s_ w' => (w'.cell? ⟨gb252, 0, none⟩ = some (.int .i64 a0_0) ∧ w'.cell? ⟨gb252, 1, none⟩ = some (.int .i64 a0_1) ∧ w'.cell? ⟨gb252, 2, none⟩ = some (.slice A0_2 l0_2.length c0_2)) ∧ (Kd.R k89 89 w' w.heap.size (fun _ => True) s_.1 t256) ∧ (Kd.R (Kd.int .u8) 5 w' w.heap.size (fun _ => True) s_.2 y259) ∧ (w'.heap[gb252]? = some (.cells #[.int .i64 a0_0, .int .i64 a0_1, .slice A0_2 l0_2.length c0_2] 32 (0, 0))) ∧ (w'.heap[gb253]? = some (.cells #[.int .i64 0, .int .i64 0, .slice none 0 0] 32 (0, 0))) ∧ (Below w.heap.size w w')) ?_ ?_
    rotate_left
    ·intro hJ1_9_10
     refine join_ (σ := Value × Value × Nat) 4 #[true, true, true, true, true, true, true, true, true, true, false, true, false, false, false] (fun s_ => [(17, .agg #[.int .i64 t254, .int .i64 t255, s_.1]), (25, s_.2.1), (5, .pointer (some ⟨s_.2.2, 0, none⟩))]) (fun s_ w' => (w'.cell? ⟨gb252, 0, none⟩ = some (.int .i64 a0_0) ∧ w'.cell? ⟨gb252, 1, none⟩ = some (.int .i64 a0_1) ∧ w'.cell? ⟨gb252, 2, none⟩ = some (.slice A0_2 l0_2.length c0_2)) ∧ (Kd.R k89 89 w' w.heap.size (fun _ => True) s_.1 t256) ∧ (Kd.R (Kd.int .u8) 5 w' w.heap.size (fun _ => True) s_.2.1 y259) ∧ (w'.heap[gb252]? = some (.cells #[.int .i64 a0_0, .int .i64 a0_1, .slice A0_2 l0_2.length c0_2] 32 (0, 0))) ∧ (w'.heap[gb253]? = some (.cells #[.int .i64 0, .int .i64 0, .slice none 0 0] 32 (0, 0))) ∧ (w'.heap[s_.2.2]? = some (.cells #[.int .i64 0, .int .i64 0, .slice none 0 0] 32 (0, 0))) ∧ (w.heap.size ≤ s_.2.2) ∧ (w.heap.size ≤ s_.2.2) ∧ (gb252 ≠ s_.2.2) ∧ (s_.2.2 ≠ gb252) ∧ (gb253 ≠ s_.2.2) ∧ (s_.2.2 ≠ gb253) ∧ (Below w.heap.size w w')) ?_ ?_
     rotate_left
     ·intro hJ1_9_11
      refine join_ (σ := Value × Nat) 4 #[true, true, true, true, true, true, true, true, true, false, false, true, true, false, false] (fun s_ => [(17, .agg #[.int .i64 t254, .int .i64 t255, s_.1]), (5, .pointer (some ⟨s_.2, 0, none⟩))]) (fun s_ w' => (w'.cell? ⟨gb252, 0, none⟩ = some (.int .i64 a0_0) ∧ w'.cell? ⟨gb252, 1, none⟩ = some (.int .i64 a0_1) ∧ w'.cell? ⟨gb252, 2, none⟩ = some (.slice A0_2 l0_2.length c0_2)) ∧ (Kd.R k89 89 w' w.heap.size (fun _ => True) s_.1 t256) ∧ (w'.heap[gb252]? = some (.cells #[.int .i64 a0_0, .int .i64 a0_1, .slice A0_2 l0_2.length c0_2] 32 (0, 0))) ∧ (w'.heap[gb253]? = some (.cells #[.int .i64 0, .int .i64 0, .slice none 0 0] 32 (0, 0))) ∧ (w'.heap[s_.2]? = some (.cells #[.int .i64 t254, .int .i64 t255, s_.1] 32 (0, 0))) ∧ (w.heap.size ≤ s_.2) ∧ (w.heap.size ≤ s_.2) ∧ (gb252 ≠ s_.2) ∧ (s_.2 ≠ gb252) ∧ (gb253 ≠ s_.2) ∧ (s_.2 ≠ gb253) ∧ (Below w.heap.size w w')) ?_ ?_
      rotate_left
      ·intro hJ1_11_12
       refine join_ (σ := Value × Nat) 4 #[true, false, true, true, true, true, true, true, true, true, true, true, false, false, false] (fun s_ => [(25, s_.1), (26, .string (strOfNums y259)), (5, .pointer (some ⟨s_.2, 0, none⟩))]) (fun s_ w' => (w'.cell? ⟨gb252, 0, none⟩ = some (.int .i64 a0_0) ∧ w'.cell? ⟨gb252, 1, none⟩ = some (.int .i64 a0_1) ∧ w'.cell? ⟨gb252, 2, none⟩ = some (.slice A0_2 l0_2.length c0_2)) ∧ (Kd.R (Kd.int .u8) 5 w' w.heap.size (fun _ => True) s_.1 y259) ∧ (w'.heap[gb252]? = some (.cells #[.int .i64 a0_0, .int .i64 a0_1, .slice A0_2 l0_2.length c0_2] 32 (0, 0))) ∧ (w'.heap[gb253]? = some (.cells #[.int .i64 0, .int .i64 0, .slice none 0 0] 32 (0, 0))) ∧ (w'.heap[s_.2]? = some (.cells #[.int .i64 0, .int .i64 0, .slice none 0 0] 32 (0, 0))) ∧ (w.heap.size ≤ s_.2) ∧ (w.heap.size ≤ s_.2) ∧ (gb252 ≠ s_.2) ∧ (s_.2 ≠ gb252) ∧ (gb253 ≠ s_.2) ∧ (s_.2 ≠ gb253) ∧ (Below w.heap.size w w')) ?_ ?_
       rotate_left
       ·intro hJ9_10_11
        refine join_ (σ := Value × Value) 5 #[true, true, true, true, true, true, true, true, true, true, false, false, false, false, false] (fun s_ => [(17, .agg #[.int .i64 t254, .int .i64 t255, s_.1]), (25, s_.2)]) (fun s_ w' => (w'.cell? ⟨gb252, 0, none⟩ = some (.int .i64 a0_0) ∧ w'.cell? ⟨gb252, 1, none⟩ = some (.int .i64 a0_1) ∧ w'.cell? ⟨gb252, 2, none⟩ = some (.slice A0_2 l0_2.length c0_2)) ∧ (Kd.R k89 89 w' w.heap.size (fun _ => True) s_.1 t256) ∧ (Kd.R (Kd.int .u8) 5 w' w.heap.size (fun _ => True) s_.2 y259) ∧ (w'.heap[gb252]? = some (.cells #[.int .i64 a0_0, .int .i64 a0_1, .slice A0_2 l0_2.length c0_2] 32 (0, 0))) ∧ (w'.heap[gb253]? = some (.cells #[.int .i64 0, .int .i64 0, .slice none 0 0] 32 (0, 0))) ∧ (Below w.heap.size w w')) ?_ ?_
        rotate_left
        ·intro hJ1_9
         refine join_ (σ := Value × Nat) 5 #[true, true, true, true, true, true, true, true, true, false, false, true, false, false, false] (fun s_ => [(17, .agg #[.int .i64 t254, .int .i64 t255, s_.1]), (5, .pointer (some ⟨s_.2, 0, none⟩))]) (fun s_ w' => (w'.cell? ⟨gb252, 0, none⟩ = some (.int .i64 a0_0) ∧ w'.cell? ⟨gb252, 1, none⟩ = some (.int .i64 a0_1) ∧ w'.cell? ⟨gb252, 2, none⟩ = some (.slice A0_2 l0_2.length c0_2)) ∧ (Kd.R k89 89 w' w.heap.size (fun _ => True) s_.1 t256) ∧ (w'.heap[gb252]? = some (.cells #[.int .i64 a0_0, .int .i64 a0_1, .slice A0_2 l0_2.length c0_2] 32 (0, 0))) ∧ (w'.heap[gb253]? = some (.cells #[.int .i64 0, .int .i64 0, .slice none 0 0] 32 (0, 0))) ∧ (w'.heap[s_.2]? = some (.cells #[.int .i64 0, .int .i64 0, .slice none 0 0] 32 (0, 0))) ∧ (w.heap.size ≤ s_.2) ∧ (w.heap.size ≤ s_.2) ∧ (gb252 ≠ s_.2) ∧ (s_.2 ≠ gb252) ∧ (gb253 ≠ s_.2) ∧ (s_.2 ≠ gb253) ∧ (Below w.heap.size w w')) ?_ ?_
         rotate_left
         ·intro hJ1_11
          refine join_ (σ := Value) 5 #[true, false, true, true, true, true, true, true, true, true, true, false, false, false, false] (fun s_ => [(25, s_), (26, .string (strOfNums y259))]) (fun s_ w' => (w'.cell? ⟨gb252, 0, none⟩ = some (.int .i64 a0_0) ∧ w'.cell? ⟨gb252, 1, none⟩ = some (.int .i64 a0_1) ∧ w'.cell? ⟨gb252, 2, none⟩ = some (.slice A0_2 l0_2.length c0_2)) ∧ (Kd.R (Kd.int .u8) 5 w' w.heap.size (fun _ => True) s_ y259) ∧ (w'.heap[gb252]? = some (.cells #[.int .i64 a0_0, .int .i64 a0_1, .slice A0_2 l0_2.length c0_2] 32 (0, 0))) ∧ (w'.heap[gb253]? = some (.cells #[.int .i64 0, .int .i64 0, .slice none 0 0] 32 (0, 0))) ∧ (Below w.heap.size w w')) ?_ ?_
          rotate_left
          ·intro hJ9_10
           refine join_ (σ := Value × Nat) 5 #[true, false, true, true, true, true, true, true, true, true, false, true, false, false, false] (fun s_ => [(25, s_.1), (5, .pointer (some ⟨s_.2, 0, none⟩))]) (fun s_ w' => (w'.cell? ⟨gb252, 0, none⟩ = some (.int .i64 a0_0) ∧ w'.cell? ⟨gb252, 1, none⟩ = some (.int .i64 a0_1) ∧ w'.cell? ⟨gb252, 2, none⟩ = some (.slice A0_2 l0_2.length c0_2)) ∧ (Kd.R (Kd.int .u8) 5 w' w.heap.size (fun _ => True) s_.1 y259) ∧ (w'.heap[gb252]? = some (.cells #[.int .i64 a0_0, .int .i64 a0_1, .slice A0_2 l0_2.length c0_2] 32 (0, 0))) ∧ (w'.heap[gb253]? = some (.cells #[.int .i64 0, .int .i64 0, .slice none 0 0] 32 (0, 0))) ∧ (w'.heap[s_.2]? = some (.cells #[.int .i64 0, .int .i64 0, .slice none 0 0] 32 (0, 0))) ∧ (w.heap.size ≤ s_.2) ∧ (w.heap.size ≤ s_.2) ∧ (gb252 ≠ s_.2) ∧ (s_.2 ≠ gb252) ∧ (gb253 ≠ s_.2) ∧ (s_.2 ≠ gb253) ∧ (Below w.heap.size w w')) ?_ ?_
           rotate_left
           ·intro hJ9_11
            refine join_ (σ := Value) 6 #[true, true, true, true, true, true, true, true, true, false, false, false, false, false, false] (fun s_ => [(17, .agg #[.int .i64 t254, .int .i64 t255, s_])]) (fun s_ w' => (w'.cell? ⟨gb252, 0, none⟩ = some (.int .i64 a0_0) ∧ w'.cell? ⟨gb252, 1, none⟩ = some (.int .i64 a0_1) ∧ w'.cell? ⟨gb252, 2, none⟩ = some (.slice A0_2 l0_2.length c0_2)) ∧ (Kd.R k89 89 w' w.heap.size (fun _ => True) s_ t256) ∧ (w'.heap[gb252]? = some (.cells #[.int .i64 a0_0, .int .i64 a0_1, .slice A0_2 l0_2.length c0_2] 32 (0, 0))) ∧ (w'.heap[gb253]? = some (.cells #[.int .i64 0, .int .i64 0, .slice none 0 0] 32 (0, 0))) ∧ (Below w.heap.size w w')) ?_ ?_
            rotate_left
            ·intro hJ1
             refine join_ (σ := Value) 6 #[true, false, true, true, true, true, true, true, true, true, false, false, false, false, false] (fun s_ => [(25, s_)]) (fun s_ w' => (w'.cell? ⟨gb252, 0, none⟩ = some (.int .i64 a0_0) ∧ w'.cell? ⟨gb252, 1, none⟩ = some (.int .i64 a0_1) ∧ w'.cell? ⟨gb252, 2, none⟩ = some (.slice A0_2 l0_2.length c0_2)) ∧ (Kd.R (Kd.int .u8) 5 w' w.heap.size (fun _ => True) s_ y259) ∧ (w'.heap[gb252]? = some (.cells #[.int .i64 a0_0, .int .i64 a0_1, .slice A0_2 l0_2.length c0_2] 32 (0, 0))) ∧ (w'.heap[gb253]? = some (.cells #[.int .i64 0, .int .i64 0, .slice none 0 0] 32 (0, 0))) ∧ (Below w.heap.size w w')) ?_ ?_
             rotate_left
             ·intro hJ9
              refine join_ (σ := Nat) 6 #[true, false, true, true, true, true, true, true, true, false, false, true, false, false, false] (fun s_ => [(5, .pointer (some ⟨s_, 0, none⟩))]) (fun s_ w' => (w'.cell? ⟨gb252, 0, none⟩ = some (.int .i64 a0_0) ∧ w'.cell? ⟨gb252, 1, none⟩ = some (.int .i64 a0_1) ∧ w'.cell? ⟨gb252, 2, none⟩ = some (.slice A0_2 l0_2.length c0_2)) ∧ (w'.heap[gb252]? = some (.cells #[.int .i64 a0_0, .int .i64 a0_1, .slice A0_2 l0_2.length c0_2] 32 (0, 0))) ∧ (w'.heap[gb253]? = some (.cells #[.int .i64 0, .int .i64 0, .slice none 0 0] 32 (0, 0))) ∧ (w'.heap[s_]? = some (.cells #[.int .i64 0, .int .i64 0, .slice none 0 0] 32 (0, 0))) ∧ (w.heap.size ≤ s_) ∧ (w.heap.size ≤ s_) ∧ (gb252 ≠ s_) ∧ (s_ ≠ gb252) ∧ (gb253 ≠ s_) ∧ (s_ ≠ gb253) ∧ (Below w.heap.size w w')) ?_ ?_
              rotate_left
              ·intro hJ11
               refine three_ (i := 1) (j := 9) (k := 11) (Ni := some 17) (Nj := some 25) (Nk := some 5) #[true, true, true, true, true, true, true, true, true, false, false, false, false, false, false] #[true, false, true, true, true, true, true, true, true, true, false, false, false, false, false] #[true, false, true, true, true, true, true, true, true, false, false, true, false, false, false] rfl rfl rfl rfl rfl rfl (three_of HT_.out (by kernel_rfl)) (by decide) (by decide) (by decide) (fun K hK => ?_) (fun K hK => ?_) (fun K hK => ?_)
               ·skip
                refine goes_ Try.func77 (by kernel_rfl) rfl #[.agg #[.int .i64 a0_0, .int .i64 a0_1, .slice A0_2 l0_2.length c0_2]] (by rfl) rfl rfl zM ?_
                with_reducible refine (spec_l01Empty.calls a0_0 a0_1 _ _ l0_2 t254 t255 t256 _ ?side1 ?side2 A3.out).mono ?_
                (case side1 => repeat (exact (Kd.C_below HR0_2.out HB.out)))
                (case side2 => exact HC0_2.out)
                rintro e w9 ⟨v257, rfl, ho0, hb⟩
                refine ⟨_, rfl, ?_⟩
                have HO258 := zA (Kd.R_lower ho0 (below_size zB))
                replace BK252 := zA (zW BK252 hb)
                replace BK253 := zA (zW BK253 hb)
                replace HB := zA (below_step zB hb)
                (try clear hb)
                (try clear hb2)
                (try clear hk)
                (try clear hi)
                (try clear ho0)
                refine hK.out _ _ ⟨(blk_cell BK252.out 0).trans rfl, (blk_cell BK252.out 1).trans rfl, (blk_cell BK252.out 2).trans rfl⟩ (fun hHeld => ?_)
                clear hK K
                refine norm_ (a' := ?_) ?_ ?_
                rotate_left
                ·show Act.put _ (some 17) _ = _
                 simp only [Act.put, List.setIfInBounds_toArray, List.set, i64_w, i32_w]
                 rfl
                exact norm_ (by (simp only [putAll, Act.put, List.setIfInBounds_toArray, List.set]; done)) (hJ1 (v257) _ ⟨hHeld, zR, zK, zK, zB⟩)
               ·skip
                refine Kd.R_lit_step (Kd.int .u8) _ 5 ?hg (N := 25) ?hd (xs := ([(wrap64 ((wrap64 (48 + (ji4))) - 1)) % 256] : List Int)) (inner := [.int .u8 ((wrap64 ((wrap64 (48 + (ji4))) - 1)) % 256)]) (ok := fun _ => True) (okp := fun _ => True) ?hr ?hp (fun _ hk => hk) trivial (Below.refl _ _) (Nat.le_refl _) (by simp) ?_; (case hd => rfl); (case hg => rfl); (case hr => (go_simp; rfl)); (case hp => exact (Reps.one (show Kd.M (Kd.int .u8) _ _ _ ((wrap64 ((wrap64 (48 + (ji4))) - 1)) % 256) [.int .u8 ((wrap64 ((wrap64 (48 + (ji4))) - 1)) % 256)] from rfl) (Reps.none _ _)))
                intro v260 w9 ho10 hb hg_ hnew_
                clear hg_ hnew_
                (rw [← Ny259.out] at ho10)
                have HO261 := zA (Kd.R_lower ho10 (below_size zB))
                replace BK252 := zA (zW BK252 hb)
                replace BK253 := zA (zW BK253 hb)
                replace HB := zA (below_step zB hb)
                clear hb ho10
                refine hK.out _ _ ⟨(blk_cell BK252.out 0).trans rfl, (blk_cell BK252.out 1).trans rfl, (blk_cell BK252.out 2).trans rfl⟩ (fun hHeld => ?_)
                clear hK K
                refine norm_ (a' := ?_) ?_ ?_
                rotate_left
                ·show Act.put _ (some 25) _ = _
                 simp only [Act.put, List.setIfInBounds_toArray, List.set, i64_w, i32_w]
                 rfl
                exact norm_ (by (simp only [putAll, Act.put, List.setIfInBounds_toArray, List.set]; done)) (hJ9 (v260) _ ⟨hHeld, zR, zK, zK, zB⟩)
               ·skip
                refine box_step ?hg (N := 5) ?hd (cs := #[.int .i64 0, .int .i64 0, .slice none 0 0]) (t := 32) ?hr ?_; (case hd => rfl); (case hg => rfl); (case hr => (go_simp; done))
                intro gb262 hg w9 hbox hb
                have BK262 := zA (hbox)
                have GW262 := zA (zG : w.heap.size ≤ gb262)
                have GE262 := zA (zG : w.heap.size ≤ gb262)
                have NB252_262 := zA (zU BK252 hg)
                have NB262_252 := zA (zV BK252 hg)
                have NB253_262 := zA (zU BK253 hg)
                have NB262_253 := zA (zV BK253 hg)
                replace BK252 := zA (zW BK252 hb)
                replace BK253 := zA (zW BK253 hb)
                replace HB := zA (below_step zB hb)
                clear hb hbox hg
                refine hK.out _ _ ⟨(blk_cell BK252.out 0).trans rfl, (blk_cell BK252.out 1).trans rfl, (blk_cell BK252.out 2).trans rfl⟩ (fun hHeld => ?_)
                clear hK K
                refine norm_ (a' := ?_) ?_ ?_
                rotate_left
                ·show Act.put _ (some 5) _ = _
                 simp only [Act.put, List.setIfInBounds_toArray, List.set, i64_w, i32_w]
                 rfl
                exact norm_ (by (simp only [putAll, Act.put, List.setIfInBounds_toArray, List.set]; done)) (hJ11 (gb262) _ ⟨hHeld, zK, zK, zK, GW262.out, GE262.out, NB252_262.out, NB262_252.out, NB253_262.out, NB262_253.out, zB⟩)
              ·skip
               rintro gb262 w10 ⟨hS_, h0_, h1_, h2_, h3_, h4_, h5_, h6_, h7_, h8_, h9_⟩
               have BK262 : Aside0 (w10.heap[gb262]? = some (.cells #[.int .i64 0, .int .i64 0, .slice none 0 0] 32 (0, 0))) := ⟨h2_⟩
               have GW262 : Aside0 (w.heap.size ≤ gb262) := ⟨h3_⟩
               have GE262 : Aside0 (w.heap.size ≤ gb262) := ⟨h4_⟩
               have NB252_262 : Aside0 (gb252 ≠ gb262) := ⟨h5_⟩
               have NB262_252 : Aside0 (gb262 ≠ gb252) := ⟨h6_⟩
               have NB253_262 : Aside0 (gb253 ≠ gb262) := ⟨h7_⟩
               have NB262_253 : Aside0 (gb262 ≠ gb253) := ⟨h8_⟩
               replace BK252 : Aside0 (w10.heap[gb252]? = some (.cells #[.int .i64 a0_0, .int .i64 a0_1, .slice A0_2 l0_2.length c0_2] 32 (0, 0))) := ⟨h0_⟩
               replace BK253 : Aside0 (w10.heap[gb253]? = some (.cells #[.int .i64 0, .int .i64 0, .slice none 0 0] 32 (0, 0))) := ⟨h1_⟩
               replace HB : Aside0 (Below w.heap.size w w10) := ⟨h9_⟩
               clear h0_ h1_ h2_ h3_ h4_ h5_ h6_ h7_ h8_ h9_
               have hHeld : w10.cell? ⟨gb252, 0, none⟩ = some (.int .i64 a0_0) ∧ w10.cell? ⟨gb252, 1, none⟩ = some (.int .i64 a0_1) ∧ w10.cell? ⟨gb252, 2, none⟩ = some (.slice A0_2 l0_2.length c0_2) := hS_
               refine norm_ (a' := ?_) ?_ ?_
               rotate_left
               ·simp only [putAll, Act.put, List.setIfInBounds_toArray, List.set]
                rfl
               refine two_ (i := 1) (j := 9) (Ni := some 17) (Nj := some 25) #[true, true, true, true, true, true, true, true, true, false, false, true, false, false, false] #[true, false, true, true, true, true, true, true, true, true, false, true, false, false, false] rfl rfl rfl rfl (two_of HT_.out (by kernel_rfl)) (by decide) (by decide) (fun K hK => ?_) (fun K hK => ?_)
               ·skip
                refine goes_ Try.func77 (by kernel_rfl) rfl #[.agg #[.int .i64 a0_0, .int .i64 a0_1, .slice A0_2 l0_2.length c0_2]] (by rfl) rfl rfl zM ?_
                with_reducible refine (spec_l01Empty.calls a0_0 a0_1 _ _ l0_2 t254 t255 t256 _ ?side1 ?side2 A3.out).mono ?_
                (case side1 => repeat (exact (Kd.C_below HR0_2.out HB.out)))
                (case side2 => exact HC0_2.out)
                rintro e w11 ⟨v257, rfl, ho0, hb⟩
                refine ⟨_, rfl, ?_⟩
                have HO258 := zA (Kd.R_lower ho0 (below_size zB))
                replace BK252 := zA (zW BK252 hb)
                replace BK253 := zA (zW BK253 hb)
                replace BK262 := zA (zW BK262 hb)
                replace HB := zA (below_step zB hb)
                (try clear hb)
                (try clear hb2)
                (try clear hk)
                (try clear hi)
                (try clear ho0)
                refine hK.out _ _ ⟨(blk_cell BK252.out 0).trans rfl, (blk_cell BK252.out 1).trans rfl, (blk_cell BK252.out 2).trans rfl⟩ (fun hHeld => ?_)
                clear hK K
                refine norm_ (a' := ?_) ?_ ?_
                rotate_left
                ·show Act.put _ (some 17) _ = _
                 simp only [Act.put, List.setIfInBounds_toArray, List.set, i64_w, i32_w]
                 rfl
                exact norm_ (by (simp only [putAll, Act.put, List.setIfInBounds_toArray, List.set]; done)) (hJ1_11 (v257, gb262) _ ⟨hHeld, zR, zK, zK, zK, GW262.out, GE262.out, NB252_262.out, NB262_252.out, NB253_262.out, NB262_253.out, zB⟩)
               ·skip
                refine Kd.R_lit_step (Kd.int .u8) _ 5 ?hg (N := 25) ?hd (xs := ([(wrap64 ((wrap64 (48 + (ji4))) - 1)) % 256] : List Int)) (inner := [.int .u8 ((wrap64 ((wrap64 (48 + (ji4))) - 1)) % 256)]) (ok := fun _ => True) (okp := fun _ => True) ?hr ?hp (fun _ hk => hk) trivial (Below.refl _ _) (Nat.le_refl _) (by simp) ?_; (case hd => rfl); (case hg => rfl); (case hr => (go_simp; rfl)); (case hp => exact (Reps.one (show Kd.M (Kd.int .u8) _ _ _ ((wrap64 ((wrap64 (48 + (ji4))) - 1)) % 256) [.int .u8 ((wrap64 ((wrap64 (48 + (ji4))) - 1)) % 256)] from rfl) (Reps.none _ _)))
                intro v260 w11 ho12 hb hg_ hnew_
                clear hg_ hnew_
                (rw [← Ny259.out] at ho12)
                have HO261 := zA (Kd.R_lower ho12 (below_size zB))
                replace BK252 := zA (zW BK252 hb)
                replace BK253 := zA (zW BK253 hb)
                replace BK262 := zA (zW BK262 hb)
                replace HB := zA (below_step zB hb)
                clear hb ho12
                refine hK.out _ _ ⟨(blk_cell BK252.out 0).trans rfl, (blk_cell BK252.out 1).trans rfl, (blk_cell BK252.out 2).trans rfl⟩ (fun hHeld => ?_)
                clear hK K
                refine norm_ (a' := ?_) ?_ ?_
                rotate_left
                ·show Act.put _ (some 25) _ = _
                 simp only [Act.put, List.setIfInBounds_toArray, List.set, i64_w, i32_w]
                 rfl
                exact norm_ (by (simp only [putAll, Act.put, List.setIfInBounds_toArray, List.set]; done)) (hJ9_11 (v260, gb262) _ ⟨hHeld, zR, zK, zK, zK, GW262.out, GE262.out, NB252_262.out, NB262_252.out, NB253_262.out, NB262_253.out, zB⟩)
             ·skip
              rintro v260 w11 ⟨hS_, h0_, h1_, h2_, h3_⟩
              have HO261 : Aside0 (Kd.R (Kd.int .u8) 5 w11 w.heap.size (fun _ => True) v260 y259) := ⟨h0_⟩
              replace BK252 : Aside0 (w11.heap[gb252]? = some (.cells #[.int .i64 a0_0, .int .i64 a0_1, .slice A0_2 l0_2.length c0_2] 32 (0, 0))) := ⟨h1_⟩
              replace BK253 : Aside0 (w11.heap[gb253]? = some (.cells #[.int .i64 0, .int .i64 0, .slice none 0 0] 32 (0, 0))) := ⟨h2_⟩
              replace HB : Aside0 (Below w.heap.size w w11) := ⟨h3_⟩
              clear h0_ h1_ h2_ h3_
              have hHeld : w11.cell? ⟨gb252, 0, none⟩ = some (.int .i64 a0_0) ∧ w11.cell? ⟨gb252, 1, none⟩ = some (.int .i64 a0_1) ∧ w11.cell? ⟨gb252, 2, none⟩ = some (.slice A0_2 l0_2.length c0_2) := hS_
              refine norm_ (a' := ?_) ?_ ?_
              rotate_left
              ·simp only [putAll, Act.put, List.setIfInBounds_toArray, List.set]
               rfl
              refine three_ (i := 1) (j := 10) (k := 11) (Ni := some 17) (Nj := some 26) (Nk := some 5) #[true, true, true, true, true, true, true, true, true, true, false, false, false, false, false] #[true, false, true, true, true, true, true, true, true, true, true, false, false, false, false] #[true, false, true, true, true, true, true, true, true, true, false, true, false, false, false] rfl rfl rfl rfl rfl rfl (three_of HT_.out (by kernel_rfl)) (by decide) (by decide) (by decide) (fun K hK => ?_) (fun K hK => ?_) (fun K hK => ?_)
              ·skip
               refine goes_ Try.func77 (by kernel_rfl) rfl #[.agg #[.int .i64 a0_0, .int .i64 a0_1, .slice A0_2 l0_2.length c0_2]] (by rfl) rfl rfl zM ?_
               with_reducible refine (spec_l01Empty.calls a0_0 a0_1 _ _ l0_2 t254 t255 t256 _ ?side1 ?side2 A3.out).mono ?_
               (case side1 => repeat (exact (Kd.C_below HR0_2.out HB.out)))
               (case side2 => exact HC0_2.out)
               rintro e w12 ⟨v257, rfl, ho0, hb⟩
               refine ⟨_, rfl, ?_⟩
               have HO258 := zA (Kd.R_lower ho0 (below_size zB))
               replace HO261 := zA (Kd.R_below HO261.out hb)
               replace BK252 := zA (zW BK252 hb)
               replace BK253 := zA (zW BK253 hb)
               replace HB := zA (below_step zB hb)
               (try clear hb)
               (try clear hb2)
               (try clear hk)
               (try clear hi)
               (try clear ho0)
               refine hK.out _ _ ⟨(blk_cell BK252.out 0).trans rfl, (blk_cell BK252.out 1).trans rfl, (blk_cell BK252.out 2).trans rfl⟩ (fun hHeld => ?_)
               clear hK K
               refine norm_ (a' := ?_) ?_ ?_
               rotate_left
               ·show Act.put _ (some 17) _ = _
                simp only [Act.put, List.setIfInBounds_toArray, List.set, i64_w, i32_w]
                rfl
               exact norm_ (by (simp only [putAll, Act.put, List.setIfInBounds_toArray, List.set]; done)) (hJ1_9 (v257, v260) _ ⟨hHeld, zR, zR, zK, zK, zB⟩)
              ·skip
               have hcv12 := own_string (P := Try.prog) Try.underlying112 Try.underlying5 Try.underlying9 (Kd.own_of_R HO261.out)
               refine value_ (w1 := ?_) (v := ?_) (by rfl) rfl ?_ ?_
               rotate_left 2
               ·go_simp
                constructor
                ·rfl
                ·rfl
               clear hcv12
               refine hK.out _ _ ⟨(blk_cell BK252.out 0).trans rfl, (blk_cell BK252.out 1).trans rfl, (blk_cell BK252.out 2).trans rfl⟩ (fun hHeld => ?_)
               clear hK K
               refine norm_ (a' := ?_) ?_ ?_
               rotate_left
               ·show Act.put _ (some 26) _ = _
                simp only [Act.put, List.setIfInBounds_toArray, List.set, i64_w, i32_w]
                rfl
               exact norm_ (by (simp only [putAll, Act.put, List.setIfInBounds_toArray, List.set]; done)) (hJ9_10 (v260) _ ⟨hHeld, zR, zK, zK, zB⟩)
              ·skip
               refine box_step ?hg (N := 5) ?hd (cs := #[.int .i64 0, .int .i64 0, .slice none 0 0]) (t := 32) ?hr ?_; (case hd => rfl); (case hg => rfl); (case hr => (go_simp; done))
               intro gb262 hg w12 hbox hb
               have BK262 := zA (hbox)
               have GW262 := zA (zG : w.heap.size ≤ gb262)
               have GE262 := zA (zG : w.heap.size ≤ gb262)
               have NB252_262 := zA (zU BK252 hg)
               have NB262_252 := zA (zV BK252 hg)
               have NB253_262 := zA (zU BK253 hg)
               have NB262_253 := zA (zV BK253 hg)
               replace HO261 := zA (Kd.R_below HO261.out hb)
               replace BK252 := zA (zW BK252 hb)
               replace BK253 := zA (zW BK253 hb)
               replace HB := zA (below_step zB hb)
               clear hb hbox hg
               refine hK.out _ _ ⟨(blk_cell BK252.out 0).trans rfl, (blk_cell BK252.out 1).trans rfl, (blk_cell BK252.out 2).trans rfl⟩ (fun hHeld => ?_)
               clear hK K
               refine norm_ (a' := ?_) ?_ ?_
               rotate_left
               ·show Act.put _ (some 5) _ = _
                simp only [Act.put, List.setIfInBounds_toArray, List.set, i64_w, i32_w]
                rfl
               exact norm_ (by (simp only [putAll, Act.put, List.setIfInBounds_toArray, List.set]; done)) (hJ9_11 (v260, gb262) _ ⟨hHeld, zR, zK, zK, zK, GW262.out, GE262.out, NB252_262.out, NB262_252.out, NB253_262.out, NB262_253.out, zB⟩)
            ·skip
             rintro v257 w10 ⟨hS_, h0_, h1_, h2_, h3_⟩
             have HO258 : Aside0 (Kd.R k89 89 w10 w.heap.size (fun _ => True) v257 t256) := ⟨h0_⟩
             replace BK252 : Aside0 (w10.heap[gb252]? = some (.cells #[.int .i64 a0_0, .int .i64 a0_1, .slice A0_2 l0_2.length c0_2] 32 (0, 0))) := ⟨h1_⟩
             replace BK253 : Aside0 (w10.heap[gb253]? = some (.cells #[.int .i64 0, .int .i64 0, .slice none 0 0] 32 (0, 0))) := ⟨h2_⟩
             replace HB : Aside0 (Below w.heap.size w w10) := ⟨h3_⟩
             clear h0_ h1_ h2_ h3_
             have hHeld : w10.cell? ⟨gb252, 0, none⟩ = some (.int .i64 a0_0) ∧ w10.cell? ⟨gb252, 1, none⟩ = some (.int .i64 a0_1) ∧ w10.cell? ⟨gb252, 2, none⟩ = some (.slice A0_2 l0_2.length c0_2) := hS_
             refine norm_ (a' := ?_) ?_ ?_
             rotate_left
             ·simp only [putAll, Act.put, List.setIfInBounds_toArray, List.set]
              rfl
             refine two_ (i := 9) (j := 11) (Ni := some 25) (Nj := some 5) #[true, true, true, true, true, true, true, true, true, true, false, false, false, false, false] #[true, true, true, true, true, true, true, true, true, false, false, true, false, false, false] rfl rfl rfl rfl (two_of HT_.out (by kernel_rfl)) (by decide) (by decide) (fun K hK => ?_) (fun K hK => ?_)
             ·skip
              refine Kd.R_lit_step (Kd.int .u8) _ 5 ?hg (N := 25) ?hd (xs := ([(wrap64 ((wrap64 (48 + (ji4))) - 1)) % 256] : List Int)) (inner := [.int .u8 ((wrap64 ((wrap64 (48 + (ji4))) - 1)) % 256)]) (ok := fun _ => True) (okp := fun _ => True) ?hr ?hp (fun _ hk => hk) trivial (Below.refl _ _) (Nat.le_refl _) (by simp) ?_; (case hd => rfl); (case hg => rfl); (case hr => (go_simp; rfl)); (case hp => exact (Reps.one (show Kd.M (Kd.int .u8) _ _ _ ((wrap64 ((wrap64 (48 + (ji4))) - 1)) % 256) [.int .u8 ((wrap64 ((wrap64 (48 + (ji4))) - 1)) % 256)] from rfl) (Reps.none _ _)))
              intro v260 w11 ho12 hb hg_ hnew_
              clear hg_ hnew_
              (rw [← Ny259.out] at ho12)
              have HO261 := zA (Kd.R_lower ho12 (below_size zB))
              replace HO258 := zA (Kd.R_below HO258.out hb)
              replace BK252 := zA (zW BK252 hb)
              replace BK253 := zA (zW BK253 hb)
              replace HB := zA (below_step zB hb)
              clear hb ho12
              refine hK.out _ _ ⟨(blk_cell BK252.out 0).trans rfl, (blk_cell BK252.out 1).trans rfl, (blk_cell BK252.out 2).trans rfl⟩ (fun hHeld => ?_)
              clear hK K
              refine norm_ (a' := ?_) ?_ ?_
              rotate_left
              ·show Act.put _ (some 25) _ = _
               simp only [Act.put, List.setIfInBounds_toArray, List.set, i64_w, i32_w]
               rfl
              exact norm_ (by (simp only [putAll, Act.put, List.setIfInBounds_toArray, List.set]; done)) (hJ1_9 (v257, v260) _ ⟨hHeld, zR, zR, zK, zK, zB⟩)
             ·skip
              refine box_step ?hg (N := 5) ?hd (cs := #[.int .i64 0, .int .i64 0, .slice none 0 0]) (t := 32) ?hr ?_; (case hd => rfl); (case hg => rfl); (case hr => (go_simp; done))
              intro gb262 hg w11 hbox hb
              have BK262 := zA (hbox)
              have GW262 := zA (zG : w.heap.size ≤ gb262)
              have GE262 := zA (zG : w.heap.size ≤ gb262)
              have NB252_262 := zA (zU BK252 hg)
              have NB262_252 := zA (zV BK252 hg)
              have NB253_262 := zA (zU BK253 hg)
              have NB262_253 := zA (zV BK253 hg)
              replace HO258 := zA (Kd.R_below HO258.out hb)
              replace BK252 := zA (zW BK252 hb)
              replace BK253 := zA (zW BK253 hb)
              replace HB := zA (below_step zB hb)
              clear hb hbox hg
              refine hK.out _ _ ⟨(blk_cell BK252.out 0).trans rfl, (blk_cell BK252.out 1).trans rfl, (blk_cell BK252.out 2).trans rfl⟩ (fun hHeld => ?_)
              clear hK K
              refine norm_ (a' := ?_) ?_ ?_
              rotate_left
              ·show Act.put _ (some 5) _ = _
               simp only [Act.put, List.setIfInBounds_toArray, List.set, i64_w, i32_w]
               rfl
              exact norm_ (by (simp only [putAll, Act.put, List.setIfInBounds_toArray, List.set]; done)) (hJ1_11 (v257, gb262) _ ⟨hHeld, zR, zK, zK, zK, GW262.out, GE262.out, NB252_262.out, NB262_252.out, NB253_262.out, NB262_253.out, zB⟩)
           ·skip
            rintro ⟨v260, gb262⟩ w12 ⟨hS_, h0_, h1_, h2_, h3_, h4_, h5_, h6_, h7_, h8_, h9_, h10_⟩
            have HO261 : Aside0 (Kd.R (Kd.int .u8) 5 w12 w.heap.size (fun _ => True) v260 y259) := ⟨h0_⟩
            have BK262 : Aside0 (w12.heap[gb262]? = some (.cells #[.int .i64 0, .int .i64 0, .slice none 0 0] 32 (0, 0))) := ⟨h3_⟩
            have GW262 : Aside0 (w.heap.size ≤ gb262) := ⟨h4_⟩
            have GE262 : Aside0 (w.heap.size ≤ gb262) := ⟨h5_⟩
            have NB252_262 : Aside0 (gb252 ≠ gb262) := ⟨h6_⟩
            have NB262_252 : Aside0 (gb262 ≠ gb252) := ⟨h7_⟩
            have NB253_262 : Aside0 (gb253 ≠ gb262) := ⟨h8_⟩
            have NB262_253 : Aside0 (gb262 ≠ gb253) := ⟨h9_⟩
            replace BK252 : Aside0 (w12.heap[gb252]? = some (.cells #[.int .i64 a0_0, .int .i64 a0_1, .slice A0_2 l0_2.length c0_2] 32 (0, 0))) := ⟨h1_⟩
            replace BK253 : Aside0 (w12.heap[gb253]? = some (.cells #[.int .i64 0, .int .i64 0, .slice none 0 0] 32 (0, 0))) := ⟨h2_⟩
            replace HB : Aside0 (Below w.heap.size w w12) := ⟨h10_⟩
            clear h0_ h1_ h2_ h3_ h4_ h5_ h6_ h7_ h8_ h9_ h10_
            have hHeld : w12.cell? ⟨gb252, 0, none⟩ = some (.int .i64 a0_0) ∧ w12.cell? ⟨gb252, 1, none⟩ = some (.int .i64 a0_1) ∧ w12.cell? ⟨gb252, 2, none⟩ = some (.slice A0_2 l0_2.length c0_2) := hS_
            refine norm_ (a' := ?_) ?_ ?_
            rotate_left
            ·simp only [putAll, Act.put, List.setIfInBounds_toArray, List.set]
             rfl
            refine two_ (i := 1) (j := 10) (Ni := some 17) (Nj := some 26) #[true, true, true, true, true, true, true, true, true, true, false, true, false, false, false] #[true, false, true, true, true, true, true, true, true, true, true, true, false, false, false] rfl rfl rfl rfl (two_of HT_.out (by kernel_rfl)) (by decide) (by decide) (fun K hK => ?_) (fun K hK => ?_)
            ·skip
             refine goes_ Try.func77 (by kernel_rfl) rfl #[.agg #[.int .i64 a0_0, .int .i64 a0_1, .slice A0_2 l0_2.length c0_2]] (by rfl) rfl rfl zM ?_
             with_reducible refine (spec_l01Empty.calls a0_0 a0_1 _ _ l0_2 t254 t255 t256 _ ?side1 ?side2 A3.out).mono ?_
             (case side1 => repeat (exact (Kd.C_below HR0_2.out HB.out)))
             (case side2 => exact HC0_2.out)
             rintro e w13 ⟨v257, rfl, ho0, hb⟩
             refine ⟨_, rfl, ?_⟩
             have HO258 := zA (Kd.R_lower ho0 (below_size zB))
             replace HO261 := zA (Kd.R_below HO261.out hb)
             replace BK252 := zA (zW BK252 hb)
             replace BK253 := zA (zW BK253 hb)
             replace BK262 := zA (zW BK262 hb)
             replace HB := zA (below_step zB hb)
             (try clear hb)
             (try clear hb2)
             (try clear hk)
             (try clear hi)
             (try clear ho0)
             refine hK.out _ _ ⟨(blk_cell BK252.out 0).trans rfl, (blk_cell BK252.out 1).trans rfl, (blk_cell BK252.out 2).trans rfl⟩ (fun hHeld => ?_)
             clear hK K
             refine norm_ (a' := ?_) ?_ ?_
             rotate_left
             ·show Act.put _ (some 17) _ = _
              simp only [Act.put, List.setIfInBounds_toArray, List.set, i64_w, i32_w]
              rfl
             exact norm_ (by (simp only [putAll, Act.put, List.setIfInBounds_toArray, List.set]; done)) (hJ1_9_11 (v257, v260, gb262) _ ⟨hHeld, zR, zR, zK, zK, zK, GW262.out, GE262.out, NB252_262.out, NB262_252.out, NB253_262.out, NB262_253.out, zB⟩)
            ·skip
             have hcv13 := own_string (P := Try.prog) Try.underlying112 Try.underlying5 Try.underlying9 (Kd.own_of_R HO261.out)
             refine value_ (w1 := ?_) (v := ?_) (by rfl) rfl ?_ ?_
             rotate_left 2
             ·go_simp
              constructor
              ·rfl
              ·rfl
             clear hcv13
             refine hK.out _ _ ⟨(blk_cell BK252.out 0).trans rfl, (blk_cell BK252.out 1).trans rfl, (blk_cell BK252.out 2).trans rfl⟩ (fun hHeld => ?_)
             clear hK K
             refine norm_ (a' := ?_) ?_ ?_
             rotate_left
             ·show Act.put _ (some 26) _ = _
              simp only [Act.put, List.setIfInBounds_toArray, List.set, i64_w, i32_w]
              rfl
             exact norm_ (by (simp only [putAll, Act.put, List.setIfInBounds_toArray, List.set]; done)) (hJ9_10_11 (v260, gb262) _ ⟨hHeld, zR, zK, zK, zK, GW262.out, GE262.out, NB252_262.out, NB262_252.out, NB253_262.out, NB262_253.out, zB⟩)
          ·skip
           rintro v260 w12 ⟨hS_, h0_, h1_, h2_, h3_⟩
           have HO261 : Aside0 (Kd.R (Kd.int .u8) 5 w12 w.heap.size (fun _ => True) v260 y259) := ⟨h0_⟩
           replace BK252 : Aside0 (w12.heap[gb252]? = some (.cells #[.int .i64 a0_0, .int .i64 a0_1, .slice A0_2 l0_2.length c0_2] 32 (0, 0))) := ⟨h1_⟩
           replace BK253 : Aside0 (w12.heap[gb253]? = some (.cells #[.int .i64 0, .int .i64 0, .slice none 0 0] 32 (0, 0))) := ⟨h2_⟩
           replace HB : Aside0 (Below w.heap.size w w12) := ⟨h3_⟩
           clear h0_ h1_ h2_ h3_
           have hHeld : w12.cell? ⟨gb252, 0, none⟩ = some (.int .i64 a0_0) ∧ w12.cell? ⟨gb252, 1, none⟩ = some (.int .i64 a0_1) ∧ w12.cell? ⟨gb252, 2, none⟩ = some (.slice A0_2 l0_2.length c0_2) := hS_
           refine norm_ (a' := ?_) ?_ ?_
           rotate_left
           ·simp only [putAll, Act.put, List.setIfInBounds_toArray, List.set]
            rfl
           refine two_ (i := 1) (j := 11) (Ni := some 17) (Nj := some 5) #[true, true, true, true, true, true, true, true, true, true, true, false, false, false, false] #[true, false, true, true, true, true, true, true, true, true, true, true, false, false, false] rfl rfl rfl rfl (two_of HT_.out (by kernel_rfl)) (by decide) (by decide) (fun K hK => ?_) (fun K hK => ?_)
           ·skip
            refine goes_ Try.func77 (by kernel_rfl) rfl #[.agg #[.int .i64 a0_0, .int .i64 a0_1, .slice A0_2 l0_2.length c0_2]] (by rfl) rfl rfl zM ?_
            with_reducible refine (spec_l01Empty.calls a0_0 a0_1 _ _ l0_2 t254 t255 t256 _ ?side1 ?side2 A3.out).mono ?_
            (case side1 => repeat (exact (Kd.C_below HR0_2.out HB.out)))
            (case side2 => exact HC0_2.out)
            rintro e w13 ⟨v257, rfl, ho0, hb⟩
            refine ⟨_, rfl, ?_⟩
            have HO258 := zA (Kd.R_lower ho0 (below_size zB))
            replace HO261 := zA (Kd.R_below HO261.out hb)
            replace BK252 := zA (zW BK252 hb)
            replace BK253 := zA (zW BK253 hb)
            replace HB := zA (below_step zB hb)
            (try clear hb)
            (try clear hb2)
            (try clear hk)
            (try clear hi)
            (try clear ho0)
            refine hK.out _ _ ⟨(blk_cell BK252.out 0).trans rfl, (blk_cell BK252.out 1).trans rfl, (blk_cell BK252.out 2).trans rfl⟩ (fun hHeld => ?_)
            clear hK K
            refine norm_ (a' := ?_) ?_ ?_
            rotate_left
            ·show Act.put _ (some 17) _ = _
             simp only [Act.put, List.setIfInBounds_toArray, List.set, i64_w, i32_w]
             rfl
            exact norm_ (by (simp only [putAll, Act.put, List.setIfInBounds_toArray, List.set]; done)) (hJ1_9_10 (v257, v260) _ ⟨hHeld, zR, zR, zK, zK, zB⟩)
           ·skip
            refine box_step ?hg (N := 5) ?hd (cs := #[.int .i64 0, .int .i64 0, .slice none 0 0]) (t := 32) ?hr ?_; (case hd => rfl); (case hg => rfl); (case hr => (go_simp; done))
            intro gb262 hg w13 hbox hb
            have BK262 := zA (hbox)
            have GW262 := zA (zG : w.heap.size ≤ gb262)
            have GE262 := zA (zG : w.heap.size ≤ gb262)
            have NB252_262 := zA (zU BK252 hg)
            have NB262_252 := zA (zV BK252 hg)
            have NB253_262 := zA (zU BK253 hg)
            have NB262_253 := zA (zV BK253 hg)
            replace HO261 := zA (Kd.R_below HO261.out hb)
            replace BK252 := zA (zW BK252 hb)
            replace BK253 := zA (zW BK253 hb)
            replace HB := zA (below_step zB hb)
            clear hb hbox hg
            refine hK.out _ _ ⟨(blk_cell BK252.out 0).trans rfl, (blk_cell BK252.out 1).trans rfl, (blk_cell BK252.out 2).trans rfl⟩ (fun hHeld => ?_)
            clear hK K
            refine norm_ (a' := ?_) ?_ ?_
            rotate_left
            ·show Act.put _ (some 5) _ = _
             simp only [Act.put, List.setIfInBounds_toArray, List.set, i64_w, i32_w]
             rfl
            exact norm_ (by (simp only [putAll, Act.put, List.setIfInBounds_toArray, List.set]; done)) (hJ9_10_11 (v260, gb262) _ ⟨hHeld, zR, zK, zK, zK, GW262.out, GE262.out, NB252_262.out, NB262_252.out, NB253_262.out, NB262_253.out, zB⟩)
         ·skip
          rintro ⟨v257, gb262⟩ w11 ⟨hS_, h0_, h1_, h2_, h3_, h4_, h5_, h6_, h7_, h8_, h9_, h10_⟩
          have HO258 : Aside0 (Kd.R k89 89 w11 w.heap.size (fun _ => True) v257 t256) := ⟨h0_⟩
          have BK262 : Aside0 (w11.heap[gb262]? = some (.cells #[.int .i64 0, .int .i64 0, .slice none 0 0] 32 (0, 0))) := ⟨h3_⟩
          have GW262 : Aside0 (w.heap.size ≤ gb262) := ⟨h4_⟩
          have GE262 : Aside0 (w.heap.size ≤ gb262) := ⟨h5_⟩
          have NB252_262 : Aside0 (gb252 ≠ gb262) := ⟨h6_⟩
          have NB262_252 : Aside0 (gb262 ≠ gb252) := ⟨h7_⟩
          have NB253_262 : Aside0 (gb253 ≠ gb262) := ⟨h8_⟩
          have NB262_253 : Aside0 (gb262 ≠ gb253) := ⟨h9_⟩
          replace BK252 : Aside0 (w11.heap[gb252]? = some (.cells #[.int .i64 a0_0, .int .i64 a0_1, .slice A0_2 l0_2.length c0_2] 32 (0, 0))) := ⟨h1_⟩
          replace BK253 : Aside0 (w11.heap[gb253]? = some (.cells #[.int .i64 0, .int .i64 0, .slice none 0 0] 32 (0, 0))) := ⟨h2_⟩
          replace HB : Aside0 (Below w.heap.size w w11) := ⟨h10_⟩
          clear h0_ h1_ h2_ h3_ h4_ h5_ h6_ h7_ h8_ h9_ h10_
          have hHeld : w11.cell? ⟨gb252, 0, none⟩ = some (.int .i64 a0_0) ∧ w11.cell? ⟨gb252, 1, none⟩ = some (.int .i64 a0_1) ∧ w11.cell? ⟨gb252, 2, none⟩ = some (.slice A0_2 l0_2.length c0_2) := hS_
          refine norm_ (a' := ?_) ?_ ?_
          rotate_left
          ·simp only [putAll, Act.put, List.setIfInBounds_toArray, List.set]
           rfl
          refine two_ (i := 9) (j := 12) (Ni := some 25) (Nj := none) #[true, true, true, true, true, true, true, true, true, true, false, true, false, false, false] #[true, true, true, true, true, true, true, true, true, false, false, true, true, false, false] rfl rfl rfl rfl (two_of HT_.out (by kernel_rfl)) (by decide) (by decide) (fun K hK => ?_) (fun K hK => ?_)
          ·skip
           refine Kd.R_lit_step (Kd.int .u8) _ 5 ?hg (N := 25) ?hd (xs := ([(wrap64 ((wrap64 (48 + (ji4))) - 1)) % 256] : List Int)) (inner := [.int .u8 ((wrap64 ((wrap64 (48 + (ji4))) - 1)) % 256)]) (ok := fun _ => True) (okp := fun _ => True) ?hr ?hp (fun _ hk => hk) trivial (Below.refl _ _) (Nat.le_refl _) (by simp) ?_; (case hd => rfl); (case hg => rfl); (case hr => (go_simp; rfl)); (case hp => exact (Reps.one (show Kd.M (Kd.int .u8) _ _ _ ((wrap64 ((wrap64 (48 + (ji4))) - 1)) % 256) [.int .u8 ((wrap64 ((wrap64 (48 + (ji4))) - 1)) % 256)] from rfl) (Reps.none _ _)))
           intro v260 w12 ho13 hb hg_ hnew_
           clear hg_ hnew_
           (rw [← Ny259.out] at ho13)
           have HO261 := zA (Kd.R_lower ho13 (below_size zB))
           replace HO258 := zA (Kd.R_below HO258.out hb)
           replace BK252 := zA (zW BK252 hb)
           replace BK253 := zA (zW BK253 hb)
           replace BK262 := zA (zW BK262 hb)
           replace HB := zA (below_step zB hb)
           clear hb ho13
           refine hK.out _ _ ⟨(blk_cell BK252.out 0).trans rfl, (blk_cell BK252.out 1).trans rfl, (blk_cell BK252.out 2).trans rfl⟩ (fun hHeld => ?_)
           clear hK K
           refine norm_ (a' := ?_) ?_ ?_
           rotate_left
           ·show Act.put _ (some 25) _ = _
            simp only [Act.put, List.setIfInBounds_toArray, List.set, i64_w, i32_w]
            rfl
           exact norm_ (by (simp only [putAll, Act.put, List.setIfInBounds_toArray, List.set]; done)) (hJ1_9_11 (v257, v260, gb262) _ ⟨hHeld, zR, zR, zK, zK, zK, GW262.out, GE262.out, NB252_262.out, NB262_252.out, NB253_262.out, NB262_253.out, zB⟩)
          ·skip
           have hs12 : w11.cell? ⟨gb262, 0, none⟩ = some (.int .i64 0) := (blk_cell BK262.out 0).trans rfl
           have hfs12 := blk_frozen BK262.out 0
           have hns12_0 := NB252_262.out
           have hns12_1 := NB253_262.out
           have hms12_0 := NB262_252.out
           have hms12_1 := NB262_253.out
           have hs13 : w11.cell? ⟨gb262, 1, none⟩ = some (.int .i64 0) := (blk_cell BK262.out 1).trans rfl
           have hfs13 := blk_frozen BK262.out 1
           have hns13_0 := NB252_262.out
           have hns13_1 := NB253_262.out
           have hms13_0 := NB262_252.out
           have hms13_1 := NB262_253.out
           have hs15 : w11.cell? ⟨gb262, 2, none⟩ = some (.slice none 0 0) := (blk_cell BK262.out 2).trans rfl
           have hfs15 := blk_frozen BK262.out 2
           have hns15_0 := NB252_262.out
           have hns15_1 := NB253_262.out
           have hms15_0 := NB262_252.out
           have hms15_1 := NB262_253.out
           obtain ⟨ab_, cb_, eb_⟩ := Kd.R_slice HO258.out
           subst eb_
           refine skip_ (w1 := ?_) (by rfl) rfl ?_ ?_
           rotate_left
           ·go_simp
            rfl
           refine hK.out _ _ ⟨((cell_far (p := ⟨gb262, _, none⟩) NB252_262.out _).trans (((cell_far (p := ⟨gb262, _, none⟩) NB252_262.out _).trans (((cell_far (p := ⟨gb262, _, none⟩) NB252_262.out _).trans (hHeld.1)))))), ((cell_far (p := ⟨gb262, _, none⟩) NB252_262.out _).trans (((cell_far (p := ⟨gb262, _, none⟩) NB252_262.out _).trans (((cell_far (p := ⟨gb262, _, none⟩) NB252_262.out _).trans (hHeld.2.1)))))), ((cell_far (p := ⟨gb262, _, none⟩) NB252_262.out _).trans (((cell_far (p := ⟨gb262, _, none⟩) NB252_262.out _).trans (((cell_far (p := ⟨gb262, _, none⟩) NB252_262.out _).trans (hHeld.2.2))))))⟩ (fun hHeld => ?_)
           clear hK K
           exact norm_ (by (simp only [putAll, Act.put, List.setIfInBounds_toArray, List.set]; done)) (hJ1_11_12 ((.slice ab_ t256.length cb_), gb262) _ ⟨hHeld, (by exact Kd.R_mono (Kd.R_far (p := ⟨gb262, 2, none⟩) (Kd.R_far (p := ⟨gb262, 1, none⟩) (Kd.R_far (p := ⟨gb262, 0, none⟩) (Kd.R_types HO258.out BK262.out (by decide)) (fun _ hk => hk.2) (.int .i64 t254)) (fun _ hk => hk.2) (.int .i64 t255)) (fun _ hk => hk.2) ((.slice ab_ t256.length cb_))) (fun _ hk => trivial)), (by refine blk_far ?_ NB252_262.out _; refine blk_far ?_ NB252_262.out _; refine blk_far ?_ NB252_262.out _; exact zK), (by refine blk_far ?_ NB253_262.out _; refine blk_far ?_ NB253_262.out _; refine blk_far ?_ NB253_262.out _; exact zK), (by refine blk_put (cs := #[.int .i64 t254, .int .i64 t255, .slice none 0 0]) ?_ 2 _ rfl; refine blk_put (cs := #[.int .i64 t254, .int .i64 0, .slice none 0 0]) ?_ 1 _ rfl; refine blk_put (cs := #[.int .i64 0, .int .i64 0, .slice none 0 0]) ?_ 0 _ rfl; exact zK), GW262.out, GE262.out, NB252_262.out, NB262_252.out, NB253_262.out, NB262_253.out, zB⟩)
        ·skip
         rintro ⟨v257, v260⟩ w12 ⟨hS_, h0_, h1_, h2_, h3_, h4_⟩
         have HO258 : Aside0 (Kd.R k89 89 w12 w.heap.size (fun _ => True) v257 t256) := ⟨h0_⟩
         have HO261 : Aside0 (Kd.R (Kd.int .u8) 5 w12 w.heap.size (fun _ => True) v260 y259) := ⟨h1_⟩
         replace BK252 : Aside0 (w12.heap[gb252]? = some (.cells #[.int .i64 a0_0, .int .i64 a0_1, .slice A0_2 l0_2.length c0_2] 32 (0, 0))) := ⟨h2_⟩
         replace BK253 : Aside0 (w12.heap[gb253]? = some (.cells #[.int .i64 0, .int .i64 0, .slice none 0 0] 32 (0, 0))) := ⟨h3_⟩
         replace HB : Aside0 (Below w.heap.size w w12) := ⟨h4_⟩
         clear h0_ h1_ h2_ h3_ h4_
         have hHeld : w12.cell? ⟨gb252, 0, none⟩ = some (.int .i64 a0_0) ∧ w12.cell? ⟨gb252, 1, none⟩ = some (.int .i64 a0_1) ∧ w12.cell? ⟨gb252, 2, none⟩ = some (.slice A0_2 l0_2.length c0_2) := hS_
         refine norm_ (a' := ?_) ?_ ?_
         rotate_left
         ·simp only [putAll, Act.put, List.setIfInBounds_toArray, List.set]
          rfl
         refine two_ (i := 10) (j := 11) (Ni := some 26) (Nj := some 5) #[true, true, true, true, true, true, true, true, true, true, true, false, false, false, false] #[true, true, true, true, true, true, true, true, true, true, false, true, false, false, false] rfl rfl rfl rfl (two_of HT_.out (by kernel_rfl)) (by decide) (by decide) (fun K hK => ?_) (fun K hK => ?_)
         ·skip
          have hcv13 := own_string (P := Try.prog) Try.underlying112 Try.underlying5 Try.underlying9 (Kd.own_of_R HO261.out)
          refine value_ (w1 := ?_) (v := ?_) (by rfl) rfl ?_ ?_
          rotate_left 2
          ·go_simp
           constructor
           ·rfl
           ·rfl
          clear hcv13
          refine hK.out _ _ ⟨(blk_cell BK252.out 0).trans rfl, (blk_cell BK252.out 1).trans rfl, (blk_cell BK252.out 2).trans rfl⟩ (fun hHeld => ?_)
          clear hK K
          refine norm_ (a' := ?_) ?_ ?_
          rotate_left
          ·show Act.put _ (some 26) _ = _
           simp only [Act.put, List.setIfInBounds_toArray, List.set, i64_w, i32_w]
           rfl
          exact norm_ (by (simp only [putAll, Act.put, List.setIfInBounds_toArray, List.set]; done)) (hJ1_9_10 (v257, v260) _ ⟨hHeld, zR, zR, zK, zK, zB⟩)
         ·skip
          refine box_step ?hg (N := 5) ?hd (cs := #[.int .i64 0, .int .i64 0, .slice none 0 0]) (t := 32) ?hr ?_; (case hd => rfl); (case hg => rfl); (case hr => (go_simp; done))
          intro gb262 hg w13 hbox hb
          have BK262 := zA (hbox)
          have GW262 := zA (zG : w.heap.size ≤ gb262)
          have GE262 := zA (zG : w.heap.size ≤ gb262)
          have NB252_262 := zA (zU BK252 hg)
          have NB262_252 := zA (zV BK252 hg)
          have NB253_262 := zA (zU BK253 hg)
          have NB262_253 := zA (zV BK253 hg)
          replace HO258 := zA (Kd.R_below HO258.out hb)
          replace HO261 := zA (Kd.R_below HO261.out hb)
          replace BK252 := zA (zW BK252 hb)
          replace BK253 := zA (zW BK253 hb)
          replace HB := zA (below_step zB hb)
          clear hb hbox hg
          refine hK.out _ _ ⟨(blk_cell BK252.out 0).trans rfl, (blk_cell BK252.out 1).trans rfl, (blk_cell BK252.out 2).trans rfl⟩ (fun hHeld => ?_)
          clear hK K
          refine norm_ (a' := ?_) ?_ ?_
          rotate_left
          ·show Act.put _ (some 5) _ = _
           simp only [Act.put, List.setIfInBounds_toArray, List.set, i64_w, i32_w]
           rfl
          exact norm_ (by (simp only [putAll, Act.put, List.setIfInBounds_toArray, List.set]; done)) (hJ1_9_11 (v257, v260, gb262) _ ⟨hHeld, zR, zR, zK, zK, zK, GW262.out, GE262.out, NB252_262.out, NB262_252.out, NB253_262.out, NB262_253.out, zB⟩)
       ·skip
        rintro ⟨v260, gb262⟩ w13 ⟨hS_, h0_, h1_, h2_, h3_, h4_, h5_, h6_, h7_, h8_, h9_, h10_⟩
        have HO261 : Aside0 (Kd.R (Kd.int .u8) 5 w13 w.heap.size (fun _ => True) v260 y259) := ⟨h0_⟩
        have BK262 : Aside0 (w13.heap[gb262]? = some (.cells #[.int .i64 0, .int .i64 0, .slice none 0 0] 32 (0, 0))) := ⟨h3_⟩
        have GW262 : Aside0 (w.heap.size ≤ gb262) := ⟨h4_⟩
        have GE262 : Aside0 (w.heap.size ≤ gb262) := ⟨h5_⟩
        have NB252_262 : Aside0 (gb252 ≠ gb262) := ⟨h6_⟩
        have NB262_252 : Aside0 (gb262 ≠ gb252) := ⟨h7_⟩
        have NB253_262 : Aside0 (gb253 ≠ gb262) := ⟨h8_⟩
        have NB262_253 : Aside0 (gb262 ≠ gb253) := ⟨h9_⟩
        replace BK252 : Aside0 (w13.heap[gb252]? = some (.cells #[.int .i64 a0_0, .int .i64 a0_1, .slice A0_2 l0_2.length c0_2] 32 (0, 0))) := ⟨h1_⟩
        replace BK253 : Aside0 (w13.heap[gb253]? = some (.cells #[.int .i64 0, .int .i64 0, .slice none 0 0] 32 (0, 0))) := ⟨h2_⟩
        replace HB : Aside0 (Below w.heap.size w w13) := ⟨h10_⟩
        clear h0_ h1_ h2_ h3_ h4_ h5_ h6_ h7_ h8_ h9_ h10_
        have hHeld : w13.cell? ⟨gb252, 0, none⟩ = some (.int .i64 a0_0) ∧ w13.cell? ⟨gb252, 1, none⟩ = some (.int .i64 a0_1) ∧ w13.cell? ⟨gb252, 2, none⟩ = some (.slice A0_2 l0_2.length c0_2) := hS_
        refine norm_ (a' := ?_) ?_ ?_
        rotate_left
        ·simp only [putAll, Act.put, List.setIfInBounds_toArray, List.set]
         rfl
        refine one_ (i := 1) (N := some 17) #[true, true, true, true, true, true, true, true, true, true, true, true, false, false, false] rfl rfl (one_of HT_.out (by kernel_rfl)) (by decide) (fun K hK => ?_)
        refine goes_ Try.func77 (by kernel_rfl) rfl #[.agg #[.int .i64 a0_0, .int .i64 a0_1, .slice A0_2 l0_2.length c0_2]] (by rfl) rfl rfl zM ?_
        with_reducible refine (spec_l01Empty.calls a0_0 a0_1 _ _ l0_2 t254 t255 t256 _ ?side1 ?side2 A3.out).mono ?_
        (case side1 => repeat (exact (Kd.C_below HR0_2.out HB.out)))
        (case side2 => exact HC0_2.out)
        rintro e w14 ⟨v257, rfl, ho0, hb⟩
        refine ⟨_, rfl, ?_⟩
        have HO258 := zA (Kd.R_lower ho0 (below_size zB))
        replace HO261 := zA (Kd.R_below HO261.out hb)
        replace BK252 := zA (zW BK252 hb)
        replace BK253 := zA (zW BK253 hb)
        replace BK262 := zA (zW BK262 hb)
        replace HB := zA (below_step zB hb)
        (try clear hb)
        (try clear hb2)
        (try clear hk)
        (try clear hi)
        (try clear ho0)
        refine hK.out _ _ ⟨(blk_cell BK252.out 0).trans rfl, (blk_cell BK252.out 1).trans rfl, (blk_cell BK252.out 2).trans rfl⟩ (fun hHeld => ?_)
        clear hK K
        refine norm_ (a' := ?_) ?_ ?_
        rotate_left
        ·show Act.put _ (some 17) _ = _
         simp only [Act.put, List.setIfInBounds_toArray, List.set, i64_w, i32_w]
         rfl
        exact norm_ (by (simp only [putAll, Act.put, List.setIfInBounds_toArray, List.set]; done)) (hJ1_9_10_11 (v257, v260, gb262) _ ⟨hHeld, zR, zR, zK, zK, zK, GW262.out, GE262.out, NB252_262.out, NB262_252.out, NB253_262.out, NB262_253.out, zB⟩)
      ·skip
       rintro ⟨v257, gb262⟩ w15 ⟨hS_, h0_, h1_, h2_, h3_, h4_, h5_, h6_, h7_, h8_, h9_, h10_⟩
       have HO258 : Aside0 (Kd.R k89 89 w15 w.heap.size (fun _ => True) v257 t256) := ⟨h0_⟩
       have BK262 : Aside0 (w15.heap[gb262]? = some (.cells #[.int .i64 t254, .int .i64 t255, v257] 32 (0, 0))) := ⟨h3_⟩
       have GW262 : Aside0 (w.heap.size ≤ gb262) := ⟨h4_⟩
       have GE262 : Aside0 (w.heap.size ≤ gb262) := ⟨h5_⟩
       have NB252_262 : Aside0 (gb252 ≠ gb262) := ⟨h6_⟩
       have NB262_252 : Aside0 (gb262 ≠ gb252) := ⟨h7_⟩
       have NB253_262 : Aside0 (gb253 ≠ gb262) := ⟨h8_⟩
       have NB262_253 : Aside0 (gb262 ≠ gb253) := ⟨h9_⟩
       replace BK252 : Aside0 (w15.heap[gb252]? = some (.cells #[.int .i64 a0_0, .int .i64 a0_1, .slice A0_2 l0_2.length c0_2] 32 (0, 0))) := ⟨h1_⟩
       replace BK253 : Aside0 (w15.heap[gb253]? = some (.cells #[.int .i64 0, .int .i64 0, .slice none 0 0] 32 (0, 0))) := ⟨h2_⟩
       replace HB : Aside0 (Below w.heap.size w w15) := ⟨h10_⟩
       clear h0_ h1_ h2_ h3_ h4_ h5_ h6_ h7_ h8_ h9_ h10_
       have hHeld : w15.cell? ⟨gb252, 0, none⟩ = some (.int .i64 a0_0) ∧ w15.cell? ⟨gb252, 1, none⟩ = some (.int .i64 a0_1) ∧ w15.cell? ⟨gb252, 2, none⟩ = some (.slice A0_2 l0_2.length c0_2) := hS_
       refine norm_ (a' := ?_) ?_ ?_
       rotate_left
       ·simp only [putAll, Act.put, List.setIfInBounds_toArray, List.set]
        rfl
       refine one_ (i := 9) (N := some 25) #[true, true, true, true, true, true, true, true, true, true, false, true, true, false, false] rfl rfl (one_of HT_.out (by kernel_rfl)) (by decide) (fun K hK => ?_)
       refine Kd.R_lit_step (Kd.int .u8) _ 5 ?hg (N := 25) ?hd (xs := ([(wrap64 ((wrap64 (48 + (ji4))) - 1)) % 256] : List Int)) (inner := [.int .u8 ((wrap64 ((wrap64 (48 + (ji4))) - 1)) % 256)]) (ok := fun _ => True) (okp := fun _ => True) ?hr ?hp (fun _ hk => hk) trivial (Below.refl _ _) (Nat.le_refl _) (by simp) ?_; (case hd => rfl); (case hg => rfl); (case hr => (go_simp; rfl)); (case hp => exact (Reps.one (show Kd.M (Kd.int .u8) _ _ _ ((wrap64 ((wrap64 (48 + (ji4))) - 1)) % 256) [.int .u8 ((wrap64 ((wrap64 (48 + (ji4))) - 1)) % 256)] from rfl) (Reps.none _ _)))
       intro v260 w16 ho17 hb hg_ hnew_
       clear hg_ hnew_
       (rw [← Ny259.out] at ho17)
       have HO261 := zA (Kd.R_lower ho17 (below_size zB))
       replace HO258 := zA (Kd.R_below HO258.out hb)
       replace BK252 := zA (zW BK252 hb)
       replace BK253 := zA (zW BK253 hb)
       replace BK262 := zA (zW BK262 hb)
       replace HB := zA (below_step zB hb)
       clear hb ho17
       refine hK.out _ _ ⟨(blk_cell BK252.out 0).trans rfl, (blk_cell BK252.out 1).trans rfl, (blk_cell BK252.out 2).trans rfl⟩ (fun hHeld => ?_)
       clear hK K
       refine norm_ (a' := ?_) ?_ ?_
       rotate_left
       ·show Act.put _ (some 25) _ = _
        simp only [Act.put, List.setIfInBounds_toArray, List.set, i64_w, i32_w]
        rfl
       exact norm_ (by (simp only [putAll, Act.put, List.setIfInBounds_toArray, List.set]; done)) (hJ1_9_11_12 (v257, v260, gb262) _ ⟨hHeld, zR, zR, zK, zK, zK, GW262.out, GE262.out, NB252_262.out, NB262_252.out, NB253_262.out, NB262_253.out, zB⟩)
     ·skip
      rintro ⟨v257, v260, gb262⟩ w13 ⟨hS_, h0_, h1_, h2_, h3_, h4_, h5_, h6_, h7_, h8_, h9_, h10_, h11_⟩
      have HO258 : Aside0 (Kd.R k89 89 w13 w.heap.size (fun _ => True) v257 t256) := ⟨h0_⟩
      have HO261 : Aside0 (Kd.R (Kd.int .u8) 5 w13 w.heap.size (fun _ => True) v260 y259) := ⟨h1_⟩
      have BK262 : Aside0 (w13.heap[gb262]? = some (.cells #[.int .i64 0, .int .i64 0, .slice none 0 0] 32 (0, 0))) := ⟨h4_⟩
      have GW262 : Aside0 (w.heap.size ≤ gb262) := ⟨h5_⟩
      have GE262 : Aside0 (w.heap.size ≤ gb262) := ⟨h6_⟩
      have NB252_262 : Aside0 (gb252 ≠ gb262) := ⟨h7_⟩
      have NB262_252 : Aside0 (gb262 ≠ gb252) := ⟨h8_⟩
      have NB253_262 : Aside0 (gb253 ≠ gb262) := ⟨h9_⟩
      have NB262_253 : Aside0 (gb262 ≠ gb253) := ⟨h10_⟩
      replace BK252 : Aside0 (w13.heap[gb252]? = some (.cells #[.int .i64 a0_0, .int .i64 a0_1, .slice A0_2 l0_2.length c0_2] 32 (0, 0))) := ⟨h2_⟩
      replace BK253 : Aside0 (w13.heap[gb253]? = some (.cells #[.int .i64 0, .int .i64 0, .slice none 0 0] 32 (0, 0))) := ⟨h3_⟩
      replace HB : Aside0 (Below w.heap.size w w13) := ⟨h11_⟩
      clear h0_ h1_ h2_ h3_ h4_ h5_ h6_ h7_ h8_ h9_ h10_ h11_
      have hHeld : w13.cell? ⟨gb252, 0, none⟩ = some (.int .i64 a0_0) ∧ w13.cell? ⟨gb252, 1, none⟩ = some (.int .i64 a0_1) ∧ w13.cell? ⟨gb252, 2, none⟩ = some (.slice A0_2 l0_2.length c0_2) := hS_
      refine norm_ (a' := ?_) ?_ ?_
      rotate_left
      ·simp only [putAll, Act.put, List.setIfInBounds_toArray, List.set]
       rfl
      refine two_ (i := 10) (j := 12) (Ni := some 26) (Nj := none) #[true, true, true, true, true, true, true, true, true, true, true, true, false, false, false] #[true, true, true, true, true, true, true, true, true, true, false, true, true, false, false] rfl rfl rfl rfl (two_of HT_.out (by kernel_rfl)) (by decide) (by decide) (fun K hK => ?_) (fun K hK => ?_)
      ·skip
       have hcv14 := own_string (P := Try.prog) Try.underlying112 Try.underlying5 Try.underlying9 (Kd.own_of_R HO261.out)
       refine value_ (w1 := ?_) (v := ?_) (by rfl) rfl ?_ ?_
       rotate_left 2
       ·go_simp
        constructor
        ·rfl
        ·rfl
       clear hcv14
       refine hK.out _ _ ⟨(blk_cell BK252.out 0).trans rfl, (blk_cell BK252.out 1).trans rfl, (blk_cell BK252.out 2).trans rfl⟩ (fun hHeld => ?_)
       clear hK K
       refine norm_ (a' := ?_) ?_ ?_
       rotate_left
       ·show Act.put _ (some 26) _ = _
        simp only [Act.put, List.setIfInBounds_toArray, List.set, i64_w, i32_w]
        rfl
       exact norm_ (by (simp only [putAll, Act.put, List.setIfInBounds_toArray, List.set]; done)) (hJ1_9_10_11 (v257, v260, gb262) _ ⟨hHeld, zR, zR, zK, zK, zK, GW262.out, GE262.out, NB252_262.out, NB262_252.out, NB253_262.out, NB262_253.out, zB⟩)
      ·skip
       have hs14 : w13.cell? ⟨gb262, 0, none⟩ = some (.int .i64 0) := (blk_cell BK262.out 0).trans rfl
       have hfs14 := blk_frozen BK262.out 0
       have hns14_0 := NB252_262.out
       have hns14_1 := NB253_262.out
       have hms14_0 := NB262_252.out
       have hms14_1 := NB262_253.out
       have hs15 : w13.cell? ⟨gb262, 1, none⟩ = some (.int .i64 0) := (blk_cell BK262.out 1).trans rfl
       have hfs15 := blk_frozen BK262.out 1
       have hns15_0 := NB252_262.out
       have hns15_1 := NB253_262.out
       have hms15_0 := NB262_252.out
       have hms15_1 := NB262_253.out
       have hs17 : w13.cell? ⟨gb262, 2, none⟩ = some (.slice none 0 0) := (blk_cell BK262.out 2).trans rfl
       have hfs17 := blk_frozen BK262.out 2
       have hns17_0 := NB252_262.out
       have hns17_1 := NB253_262.out
       have hms17_0 := NB262_252.out
       have hms17_1 := NB262_253.out
       obtain ⟨ab_, cb_, eb_⟩ := Kd.R_slice HO258.out
       subst eb_
       refine skip_ (w1 := ?_) (by rfl) rfl ?_ ?_
       rotate_left
       ·go_simp
        rfl
       refine hK.out _ _ ⟨((cell_far (p := ⟨gb262, _, none⟩) NB252_262.out _).trans (((cell_far (p := ⟨gb262, _, none⟩) NB252_262.out _).trans (((cell_far (p := ⟨gb262, _, none⟩) NB252_262.out _).trans (hHeld.1)))))), ((cell_far (p := ⟨gb262, _, none⟩) NB252_262.out _).trans (((cell_far (p := ⟨gb262, _, none⟩) NB252_262.out _).trans (((cell_far (p := ⟨gb262, _, none⟩) NB252_262.out _).trans (hHeld.2.1)))))), ((cell_far (p := ⟨gb262, _, none⟩) NB252_262.out _).trans (((cell_far (p := ⟨gb262, _, none⟩) NB252_262.out _).trans (((cell_far (p := ⟨gb262, _, none⟩) NB252_262.out _).trans (hHeld.2.2))))))⟩ (fun hHeld => ?_)
       clear hK K
       exact norm_ (by (simp only [putAll, Act.put, List.setIfInBounds_toArray, List.set]; done)) (hJ1_9_11_12 ((.slice ab_ t256.length cb_), v260, gb262) _ ⟨hHeld, (by exact Kd.R_mono (Kd.R_far (p := ⟨gb262, 2, none⟩) (Kd.R_far (p := ⟨gb262, 1, none⟩) (Kd.R_far (p := ⟨gb262, 0, none⟩) (Kd.R_types HO258.out BK262.out (by decide)) (fun _ hk => hk.2) (.int .i64 t254)) (fun _ hk => hk.2) (.int .i64 t255)) (fun _ hk => hk.2) ((.slice ab_ t256.length cb_))) (fun _ hk => trivial)), (by exact Kd.R_mono (Kd.R_far (p := ⟨gb262, 2, none⟩) (Kd.R_far (p := ⟨gb262, 1, none⟩) (Kd.R_far (p := ⟨gb262, 0, none⟩) (Kd.R_types HO261.out BK262.out (by decide)) (fun _ hk => hk.2) (.int .i64 t254)) (fun _ hk => hk.2) (.int .i64 t255)) (fun _ hk => hk.2) ((.slice ab_ t256.length cb_))) (fun _ hk => trivial)), (by refine blk_far ?_ NB252_262.out _; refine blk_far ?_ NB252_262.out _; refine blk_far ?_ NB252_262.out _; exact zK), (by refine blk_far ?_ NB253_262.out _; refine blk_far ?_ NB253_262.out _; refine blk_far ?_ NB253_262.out _; exact zK), (by refine blk_put (cs := #[.int .i64 t254, .int .i64 t255, .slice none 0 0]) ?_ 2 _ rfl; refine blk_put (cs := #[.int .i64 t254, .int .i64 0, .slice none 0 0]) ?_ 1 _ rfl; refine blk_put (cs := #[.int .i64 0, .int .i64 0, .slice none 0 0]) ?_ 0 _ rfl; exact zK), GW262.out, GE262.out, NB252_262.out, NB262_252.out, NB253_262.out, NB262_253.out, zB⟩)
    ·skip
     rintro ⟨v257, v260⟩ w13 ⟨hS_, h0_, h1_, h2_, h3_, h4_⟩
     have HO258 : Aside0 (Kd.R k89 89 w13 w.heap.size (fun _ => True) v257 t256) := ⟨h0_⟩
     have HO261 : Aside0 (Kd.R (Kd.int .u8) 5 w13 w.heap.size (fun _ => True) v260 y259) := ⟨h1_⟩
     replace BK252 : Aside0 (w13.heap[gb252]? = some (.cells #[.int .i64 a0_0, .int .i64 a0_1, .slice A0_2 l0_2.length c0_2] 32 (0, 0))) := ⟨h2_⟩
     replace BK253 : Aside0 (w13.heap[gb253]? = some (.cells #[.int .i64 0, .int .i64 0, .slice none 0 0] 32 (0, 0))) := ⟨h3_⟩
     replace HB : Aside0 (Below w.heap.size w w13) := ⟨h4_⟩
     clear h0_ h1_ h2_ h3_ h4_
     have hHeld : w13.cell? ⟨gb252, 0, none⟩ = some (.int .i64 a0_0) ∧ w13.cell? ⟨gb252, 1, none⟩ = some (.int .i64 a0_1) ∧ w13.cell? ⟨gb252, 2, none⟩ = some (.slice A0_2 l0_2.length c0_2) := hS_
     refine norm_ (a' := ?_) ?_ ?_
     rotate_left
     ·simp only [putAll, Act.put, List.setIfInBounds_toArray, List.set]
      rfl
     refine one_ (i := 11) (N := some 5) #[true, true, true, true, true, true, true, true, true, true, true, true, false, false, false] rfl rfl (one_of HT_.out (by kernel_rfl)) (by decide) (fun K hK => ?_)
     refine box_step ?hg (N := 5) ?hd (cs := #[.int .i64 0, .int .i64 0, .slice none 0 0]) (t := 32) ?hr ?_; (case hd => rfl); (case hg => rfl); (case hr => (go_simp; done))
     intro gb262 hg w14 hbox hb
     have BK262 := zA (hbox)
     have GW262 := zA (zG : w.heap.size ≤ gb262)
     have GE262 := zA (zG : w.heap.size ≤ gb262)
     have NB252_262 := zA (zU BK252 hg)
     have NB262_252 := zA (zV BK252 hg)
     have NB253_262 := zA (zU BK253 hg)
     have NB262_253 := zA (zV BK253 hg)
     replace HO258 := zA (Kd.R_below HO258.out hb)
     replace HO261 := zA (Kd.R_below HO261.out hb)
     replace BK252 := zA (zW BK252 hb)
     replace BK253 := zA (zW BK253 hb)
     replace HB := zA (below_step zB hb)
     clear hb hbox hg
     refine hK.out _ _ ⟨(blk_cell BK252.out 0).trans rfl, (blk_cell BK252.out 1).trans rfl, (blk_cell BK252.out 2).trans rfl⟩ (fun hHeld => ?_)
     clear hK K
     refine norm_ (a' := ?_) ?_ ?_
     rotate_left
     ·show Act.put _ (some 5) _ = _
      simp only [Act.put, List.setIfInBounds_toArray, List.set, i64_w, i32_w]
      rfl
     exact norm_ (by (simp only [putAll, Act.put, List.setIfInBounds_toArray, List.set]; done)) (hJ1_9_10_11 (v257, v260, gb262) _ ⟨hHeld, zR, zR, zK, zK, zK, GW262.out, GE262.out, NB252_262.out, NB262_252.out, NB253_262.out, NB262_253.out, zB⟩)
   ·skip
    rintro ⟨v257, v260, gb262⟩ w17 ⟨hS_, h0_, h1_, h2_, h3_, h4_, h5_, h6_, h7_, h8_, h9_, h10_, h11_⟩
    have HO258 : Aside0 (Kd.R k89 89 w17 w.heap.size (fun _ => True) v257 t256) := ⟨h0_⟩
    have HO261 : Aside0 (Kd.R (Kd.int .u8) 5 w17 w.heap.size (fun _ => True) v260 y259) := ⟨h1_⟩
    have BK262 : Aside0 (w17.heap[gb262]? = some (.cells #[.int .i64 t254, .int .i64 t255, v257] 32 (0, 0))) := ⟨h4_⟩
    have GW262 : Aside0 (w.heap.size ≤ gb262) := ⟨h5_⟩
    have GE262 : Aside0 (w.heap.size ≤ gb262) := ⟨h6_⟩
    have NB252_262 : Aside0 (gb252 ≠ gb262) := ⟨h7_⟩
    have NB262_252 : Aside0 (gb262 ≠ gb252) := ⟨h8_⟩
    have NB253_262 : Aside0 (gb253 ≠ gb262) := ⟨h9_⟩
    have NB262_253 : Aside0 (gb262 ≠ gb253) := ⟨h10_⟩
    replace BK252 : Aside0 (w17.heap[gb252]? = some (.cells #[.int .i64 a0_0, .int .i64 a0_1, .slice A0_2 l0_2.length c0_2] 32 (0, 0))) := ⟨h2_⟩
    replace BK253 : Aside0 (w17.heap[gb253]? = some (.cells #[.int .i64 0, .int .i64 0, .slice none 0 0] 32 (0, 0))) := ⟨h3_⟩
    replace HB : Aside0 (Below w.heap.size w w17) := ⟨h11_⟩
    clear h0_ h1_ h2_ h3_ h4_ h5_ h6_ h7_ h8_ h9_ h10_ h11_
    have hHeld : w17.cell? ⟨gb252, 0, none⟩ = some (.int .i64 a0_0) ∧ w17.cell? ⟨gb252, 1, none⟩ = some (.int .i64 a0_1) ∧ w17.cell? ⟨gb252, 2, none⟩ = some (.slice A0_2 l0_2.length c0_2) := hS_
    refine norm_ (a' := ?_) ?_ ?_
    rotate_left
    ·simp only [putAll, Act.put, List.setIfInBounds_toArray, List.set]
     rfl
    refine one_ (i := 10) (N := some 26) #[true, true, true, true, true, true, true, true, true, true, true, true, true, false, false] rfl rfl (one_of HT_.out (by kernel_rfl)) (by decide) (fun K hK => ?_)
    have hcv18 := own_string (P := Try.prog) Try.underlying112 Try.underlying5 Try.underlying9 (Kd.own_of_R HO261.out)
    refine value_ (w1 := ?_) (v := ?_) (by rfl) rfl ?_ ?_
    rotate_left 2
    ·go_simp
     constructor
     ·rfl
     ·rfl
    clear hcv18
    refine hK.out _ _ ⟨(blk_cell BK252.out 0).trans rfl, (blk_cell BK252.out 1).trans rfl, (blk_cell BK252.out 2).trans rfl⟩ (fun hHeld => ?_)
    clear hK K
    refine norm_ (a' := ?_) ?_ ?_
    rotate_left
    ·show Act.put _ (some 26) _ = _
     simp only [Act.put, List.setIfInBounds_toArray, List.set, i64_w, i32_w]
     rfl
    exact norm_ (by (simp only [putAll, Act.put, List.setIfInBounds_toArray, List.set]; done)) (hJ1_9_10_11_12 (v257, v260, gb262) _ ⟨hHeld, zR, zR, zK, zK, zK, GW262.out, GE262.out, NB252_262.out, NB262_252.out, NB253_262.out, NB262_253.out, zB⟩)
  ·skip
   rintro ⟨v257, v260, gb262⟩ w14 ⟨hS_, h0_, h1_, h2_, h3_, h4_, h5_, h6_, h7_, h8_, h9_, h10_, h11_⟩
   have HO258 : Aside0 (Kd.R k89 89 w14 w.heap.size (fun _ => True) v257 t256) := ⟨h0_⟩
   have HO261 : Aside0 (Kd.R (Kd.int .u8) 5 w14 w.heap.size (fun _ => True) v260 y259) := ⟨h1_⟩
   have BK262 : Aside0 (w14.heap[gb262]? = some (.cells #[.int .i64 0, .int .i64 0, .slice none 0 0] 32 (0, 0))) := ⟨h4_⟩
   have GW262 : Aside0 (w.heap.size ≤ gb262) := ⟨h5_⟩
   have GE262 : Aside0 (w.heap.size ≤ gb262) := ⟨h6_⟩
   have NB252_262 : Aside0 (gb252 ≠ gb262) := ⟨h7_⟩
   have NB262_252 : Aside0 (gb262 ≠ gb252) := ⟨h8_⟩
   have NB253_262 : Aside0 (gb253 ≠ gb262) := ⟨h9_⟩
   have NB262_253 : Aside0 (gb262 ≠ gb253) := ⟨h10_⟩
   replace BK252 : Aside0 (w14.heap[gb252]? = some (.cells #[.int .i64 a0_0, .int .i64 a0_1, .slice A0_2 l0_2.length c0_2] 32 (0, 0))) := ⟨h2_⟩
   replace BK253 : Aside0 (w14.heap[gb253]? = some (.cells #[.int .i64 0, .int .i64 0, .slice none 0 0] 32 (0, 0))) := ⟨h3_⟩
   replace HB : Aside0 (Below w.heap.size w w14) := ⟨h11_⟩
   clear h0_ h1_ h2_ h3_ h4_ h5_ h6_ h7_ h8_ h9_ h10_ h11_
   have hHeld : w14.cell? ⟨gb252, 0, none⟩ = some (.int .i64 a0_0) ∧ w14.cell? ⟨gb252, 1, none⟩ = some (.int .i64 a0_1) ∧ w14.cell? ⟨gb252, 2, none⟩ = some (.slice A0_2 l0_2.length c0_2) := hS_
   obtain ⟨Ao17, co17, eo17⟩ := Kd.R_slice HO258.out
   (subst eo17)
   refine norm_ (a' := ?_) ?_ ?_
   rotate_left
   ·simp only [putAll, Act.put, List.setIfInBounds_toArray, List.set]
    rfl
   refine one_ (i := 12) (N := none) #[true, true, true, true, true, true, true, true, true, true, true, true, true, false, false] rfl rfl (one_of HT_.out (by kernel_rfl)) (by decide) (fun K hK => ?_)
   have hs15 : w14.cell? ⟨gb262, 0, none⟩ = some (.int .i64 0) := (blk_cell BK262.out 0).trans rfl
   have hfs15 := blk_frozen BK262.out 0
   have hns15_0 := NB252_262.out
   have hns15_1 := NB253_262.out
   have hms15_0 := NB262_252.out
   have hms15_1 := NB262_253.out
   have hs16 : w14.cell? ⟨gb262, 1, none⟩ = some (.int .i64 0) := (blk_cell BK262.out 1).trans rfl
   have hfs16 := blk_frozen BK262.out 1
   have hns16_0 := NB252_262.out
   have hns16_1 := NB253_262.out
   have hms16_0 := NB262_252.out
   have hms16_1 := NB262_253.out
   have hs18 : w14.cell? ⟨gb262, 2, none⟩ = some (.slice none 0 0) := (blk_cell BK262.out 2).trans rfl
   have hfs18 := blk_frozen BK262.out 2
   have hns18_0 := NB252_262.out
   have hns18_1 := NB253_262.out
   have hms18_0 := NB262_252.out
   have hms18_1 := NB262_253.out
   refine skip_ (w1 := ?_) (by rfl) rfl ?_ ?_
   rotate_left
   ·go_simp
    rfl
   refine hK.out _ _ ⟨((cell_far (p := ⟨gb262, _, none⟩) NB252_262.out _).trans (((cell_far (p := ⟨gb262, _, none⟩) NB252_262.out _).trans (((cell_far (p := ⟨gb262, _, none⟩) NB252_262.out _).trans (hHeld.1)))))), ((cell_far (p := ⟨gb262, _, none⟩) NB252_262.out _).trans (((cell_far (p := ⟨gb262, _, none⟩) NB252_262.out _).trans (((cell_far (p := ⟨gb262, _, none⟩) NB252_262.out _).trans (hHeld.2.1)))))), ((cell_far (p := ⟨gb262, _, none⟩) NB252_262.out _).trans (((cell_far (p := ⟨gb262, _, none⟩) NB252_262.out _).trans (((cell_far (p := ⟨gb262, _, none⟩) NB252_262.out _).trans (hHeld.2.2))))))⟩ (fun hHeld => ?_)
   clear hK K
   exact norm_ (by (simp only [putAll, Act.put, List.setIfInBounds_toArray, List.set]; done)) (hJ1_9_10_11_12 (.slice Ao17 t256.length co17, v260, gb262) _ ⟨hHeld, (by exact Kd.R_mono (Kd.R_far (p := ⟨gb262, 2, none⟩) (Kd.R_far (p := ⟨gb262, 1, none⟩) (Kd.R_far (p := ⟨gb262, 0, none⟩) (Kd.R_types HO258.out BK262.out (by decide)) (fun _ hk => hk.2) (.int .i64 t254)) (fun _ hk => hk.2) (.int .i64 t255)) (fun _ hk => hk.2) (.slice Ao17 t256.length co17)) (fun _ hk => trivial)), (by exact Kd.R_mono (Kd.R_far (p := ⟨gb262, 2, none⟩) (Kd.R_far (p := ⟨gb262, 1, none⟩) (Kd.R_far (p := ⟨gb262, 0, none⟩) (Kd.R_types HO261.out BK262.out (by decide)) (fun _ hk => hk.2) (.int .i64 t254)) (fun _ hk => hk.2) (.int .i64 t255)) (fun _ hk => hk.2) (.slice Ao17 t256.length co17)) (fun _ hk => trivial)), (by refine blk_far ?_ NB252_262.out _; refine blk_far ?_ NB252_262.out _; refine blk_far ?_ NB252_262.out _; exact zK), (by refine blk_far ?_ NB253_262.out _; refine blk_far ?_ NB253_262.out _; refine blk_far ?_ NB253_262.out _; exact zK), (by refine blk_put (cs := #[.int .i64 t254, .int .i64 t255, .slice none 0 0]) ?_ 2 _ rfl; refine blk_put (cs := #[.int .i64 t254, .int .i64 0, .slice none 0 0]) ?_ 1 _ rfl; refine blk_put (cs := #[.int .i64 0, .int .i64 0, .slice none 0 0]) ?_ 0 _ rfl; exact zK), GW262.out, GE262.out, NB252_262.out, NB262_252.out, NB253_262.out, NB262_253.out, zB⟩)
 rintro ⟨v257, v260, gb262⟩ w18 ⟨hS_, h0_, h1_, h2_, h3_, h4_, h5_, h6_, h7_, h8_, h9_, h10_, h11_⟩
 have HO258 : Aside0 (Kd.R k89 89 w18 w.heap.size (fun _ => True) v257 t256) := ⟨h0_⟩
 have HO261 : Aside0 (Kd.R (Kd.int .u8) 5 w18 w.heap.size (fun _ => True) v260 y259) := ⟨h1_⟩
 have BK262 : Aside0 (w18.heap[gb262]? = some (.cells #[.int .i64 t254, .int .i64 t255, v257] 32 (0, 0))) := ⟨h4_⟩
 have GW262 : Aside0 (w.heap.size ≤ gb262) := ⟨h5_⟩
 have GE262 : Aside0 (w.heap.size ≤ gb262) := ⟨h6_⟩
 have NB252_262 : Aside0 (gb252 ≠ gb262) := ⟨h7_⟩
 have NB262_252 : Aside0 (gb262 ≠ gb252) := ⟨h8_⟩
 have NB253_262 : Aside0 (gb253 ≠ gb262) := ⟨h9_⟩
 have NB262_253 : Aside0 (gb262 ≠ gb253) := ⟨h10_⟩
 replace BK252 : Aside0 (w18.heap[gb252]? = some (.cells #[.int .i64 a0_0, .int .i64 a0_1, .slice A0_2 l0_2.length c0_2] 32 (0, 0))) := ⟨h2_⟩
 replace BK253 : Aside0 (w18.heap[gb253]? = some (.cells #[.int .i64 0, .int .i64 0, .slice none 0 0] 32 (0, 0))) := ⟨h3_⟩
 replace HB : Aside0 (Below w.heap.size w w18) := ⟨h11_⟩
 clear h0_ h1_ h2_ h3_ h4_ h5_ h6_ h7_ h8_ h9_ h10_ h11_
 have hHeld : w18.cell? ⟨gb252, 0, none⟩ = some (.int .i64 a0_0) ∧ w18.cell? ⟨gb252, 1, none⟩ = some (.int .i64 a0_1) ∧ w18.cell? ⟨gb252, 2, none⟩ = some (.slice A0_2 l0_2.length c0_2) := hS_
 refine norm_ (a' := ?_) ?_ ?_
 rotate_left
 ·simp only [putAll, Act.put, List.setIfInBounds_toArray, List.set]
  rfl
 refine zP 13 (N := some 6) (h := ?_)
 refine zP 14 (N := some 7) (h := ?_)
 refine done_ (done_of HT_.out (by kernel_rfl)) ?_
 go_upto_if 28 with (fail)
 go_cut [7] (fun v7 wc => ∃ (kq : Nat) (x7_4 : Int), v7 = .int .i64 x7_4 ∧ Aside0 (spec_l09Step.j0 kq (strOfNums y259) x7_4 a0_0 a0_1 l0_2 t254 t255 t256 = some (r1, r2, r3)) ∧ Aside0 (kq ≤ k) ∧ Aside0 (Kd.R k89 89 wc w.heap.size (fun _ => True) v257 t256) ∧ Aside0 (wc.heap[gb252]? = some (.cells #[.int .i64 a0_0, .int .i64 a0_1, (.slice A0_2 l0_2.length c0_2)] 32 (0, 0))) ∧ Aside0 (wc.heap[gb253]? = some (.cells #[.int .i64 0, .int .i64 0, (.slice none 0 0)] 32 (0, 0))) ∧ Aside0 (wc.heap[gb262]? = some (.cells #[.int .i64 t254, .int .i64 t255, v257] 32 (0, 0))) ∧ Aside0 (Below w.heap.size w wc))
 case first =>
  have H := HC5.out
  clear HC5
  by_cases c19 : a1 < 0
  ·rw [if_pos c19] at H
   have c19b0 : decide (a1 < 0) = true := decide_eq_true c19
   clear c19
   (rw [c19b0])
   have H' := zA H
   clear H
   go_wp2
   go_meet
   case rel => exact ⟨_, ((-1)), (by rfl), H', ⟨by omega⟩, ⟨zR⟩, ⟨zK⟩, ⟨zK⟩, ⟨zK⟩, ⟨zB⟩⟩
  ·rw [if_neg c19] at H
   have c19b0 : decide (a1 < 0) = false := decide_eq_false c19
   clear c19
   (rw [c19b0])
   have H' := zA H
   clear H
   go_wp2
   go_meet
   case rel => exact ⟨_, (1), (by rfl), H', ⟨by omega⟩, ⟨zR⟩, ⟨zK⟩, ⟨zK⟩, ⟨zK⟩, ⟨zB⟩⟩
 case rest =>
  clear HC5
  obtain ⟨kq, x7_4, rfl, HA, HJ4, HO_263002, BK252, BK253, BK262, HB⟩ := hcut
  cases kq with
  | zero => exact absurd HA.out (by simp [spec_l09Step.j0])
  | succ kj4 =>
   have H := HA.out
   clear HA
   simp only [spec_l09Step.j0] at H
   have H' := zA H
   clear H
   go_wp2
   go_loopg [8] kj4 (fun kq v8 w' => ∃ (x8_2 : Int) (x263002_2 : List (S89)) (u263002 : Value), v8 = .int .i64 x8_2 ∧ Aside0 (spec_l09Step.l0 kq (strOfNums y259) x7_4 x8_2 a0_0 a0_1 l0_2 t254 t255 x263002_2 = some (r1, r2, r3)) ∧ Aside0 (kq ≤ kj4) ∧ Aside0 (Kd.R k89 89 w' w.heap.size (fun _ => True) u263002 x263002_2) ∧ Aside0 (w'.heap[gb252]? = some (.cells #[.int .i64 a0_0, .int .i64 a0_1, (.slice A0_2 l0_2.length c0_2)] 32 (0, 0))) ∧ Aside0 (w'.heap[gb253]? = some (.cells #[.int .i64 0, .int .i64 0, (.slice none 0 0)] 32 (0, 0))) ∧ Aside0 (w'.heap[gb262]? = some (.cells #[.int .i64 t254, .int .i64 t255, u263002] 32 (0, 0))) ∧ Aside0 (Below w.heap.size w w'))
   case atStart => exact ⟨(0), (t256), (v257), (by rfl), H', ⟨Nat.le_refl _⟩, ⟨zR⟩, ⟨zK⟩, ⟨zK⟩, ⟨zK⟩, ⟨zB⟩⟩
   case round =>
    clear H'
    obtain ⟨x8_2, x263002_2, u263002, rfl, HA, HK2, HO_263002, BK252, BK253, BK262, HB⟩ := hrel
    cases gk with
    | zero => exact absurd HA.out (by simp [spec_l09Step.l0])
    | succ k2 =>
     have H := HA.out
     clear HA
     simp only [spec_l09Step.l0] at H
     by_cases c20 : x8_2 < (l0_2.length : Int)
     ·rw [if_pos c20] at H
      have c20b0 : decide (x8_2 < (l0_2.length : Int)) = true := decide_eq_true c20
      clear c20
      by_cases c21 : 0 ≤ x8_2
      ·rw [if_pos c21] at H
       have c21b0 : decide (0 ≤ x8_2) = true := decide_eq_true c21
       clear c21
       have H' := zA H
       clear H
       have hnb22 := NB252_253.out
       have hnc22 := NB253_252.out
       have hnb23 := NB252_262.out
       have hnc23 := NB262_252.out
       obtain ⟨hcz24_0, hcz24_1, hcz24_2, hfz24_0, hfz24_1, hfz24_2⟩ := zC3 BK252
       try go_wp2
       replace HO_263002 := zA (Kd.R_drew HO_263002.out)
       replace BK252 := zA (blk_drew BK252.out)
       replace BK253 := zA (blk_drew BK253.out)
       replace BK262 := zA (blk_drew BK262.out)
       replace HB := zA (below_drew1 HB.out)
       have p263 : 0 ≤ (x8_2 : Int) := zD
       have q263 : x8_2 < (l0_2.length : Int) := zD
       obtain ⟨ad263, e263, hx263_0, hx263_1, hx263_2⟩ := at_T89 HR0_2.out x8_2 p263 q263
       have hw263_2 := hx263_2
       have hw263_1 := hx263_1
       have hw263_0 := hx263_0
       cases e263
       replace hx263_0 := zH HB hx263_0
       replace hx263_1 := zH HB hx263_1
       replace hx263_2 := zH HB hx263_2
       replace p263 := eq_true p263
       replace q263 := eq_true q263
       have p264 : 0 ≤ (x8_2 : Int) := zD
       have q264 : x8_2 < (l0_2.length : Int) := zD
       obtain ⟨ad264, e264, hx264_0, hx264_1, hx264_2⟩ := at_T89 HR0_2.out x8_2 p264 q264
       have hw264_2 := hx264_2
       have hw264_1 := hx264_1
       have hw264_0 := hx264_0
       obtain rfl : ad263 = ad264 := (by injection e264)
       replace hx264_0 := zH HB hx264_0
       replace hx264_1 := zH HB hx264_1
       replace hx264_2 := zH HB hx264_2
       replace p264 := eq_true p264
       replace q264 := eq_true q264
       refine start_ (n := 15) (S := fun w' => w'.cell? ⟨gb252, 0, none⟩ = some (.int .i64 a0_0) ∧ w'.cell? ⟨gb252, 1, none⟩ = some (.int .i64 a0_1) ∧ w'.cell? ⟨gb252, 2, none⟩ = some (.slice (some ad263) l0_2.length c0_2) ∧ w'.cell? (ad263.add ((x8_2).toNat * 3)) = some (.string ((rd_T89 l0_2 x8_2).f0)) ∧ w'.cell? ⟨(ad263.add ((x8_2).toNat * 3)).block, (ad263.add ((x8_2).toNat * 3)).off + 1, none⟩ = some (.int .i64 ((rd_T89 l0_2 x8_2).f1.f0)) ∧ w'.cell? ⟨(ad263.add ((x8_2).toNat * 3)).block, (ad263.add ((x8_2).toNat * 3)).off + 2, none⟩ = some (.int .i64 ((rd_T89 l0_2 x8_2).f1.f1)) ∧ w'.cell? (ad263.add ((x8_2).toNat * 3)) = some (.string ((rd_T89 l0_2 x8_2).f0)) ∧ w'.cell? ⟨(ad263.add ((x8_2).toNat * 3)).block, (ad263.add ((x8_2).toNat * 3)).off + 1, none⟩ = some (.int .i64 ((rd_T89 l0_2 x8_2).f1.f0)) ∧ w'.cell? ⟨(ad263.add ((x8_2).toNat * 3)).block, (ad263.add ((x8_2).toNat * 3)).off + 2, none⟩ = some (.int .i64 ((rd_T89 l0_2 x8_2).f1.f1))) (ds := []) #[false, false, false, false, false, false, false, false, false, false, false, false, false, false, false] (by kernel_rfl) rfl rfl ⟨(blk_cell BK252.out 0).trans rfl, (blk_cell BK252.out 1).trans rfl, (blk_cell BK252.out 2).trans rfl, (zH HB hw263_0 :), (zH HB hw263_1 :), (zH HB hw263_2 :), (zH HB hw264_0 :), (zH HB hw264_1 :), (zH HB hw264_2 :)⟩ (fun hHeld => ?_); refine with_tabW spec_l09Step.tab7 spec_l09Step.bits7 (fun HT_ HW_ => ?_)
       generalize wr.drew = w25 at HO_263002 BK252 BK253 BK262 HB hx263_0 hx263_1 hx263_2 hx264_0 hx264_1 hx264_2 hHeld ⊢
       refine zP 0 (N := some 36) (h := ?_)
       refine zP 2 (N := some 38) (h := ?_)
       refine zP 6 (N := some 42) (h := ?_)
       refine zP 8 (N := some 44) (h := ?_)
       refine zT 1 hHeld (N := some 37) (h := ?_)
       refine zP 3 (N := some 39) (h := ?_)
       refine zP 4 (N := some 40) (h := ?_)
       refine zT 5 hHeld (N := some 41) (h := ?_)
       refine zT 7 hHeld (N := some 43) (h := ?_)
       refine zP 9 (N := some 45) (h := ?_)
       refine zP 10 (N := some 46) (h := ?_)
       refine zT 11 hHeld (N := some 47) (h := ?_)
       refine one_ (i := 12) (N := some 10) #[true, true, true, true, true, true, true, true, true, true, true, true, true, false, false] rfl rfl (one_of HT_.out (by kernel_rfl)) (by decide) (fun K hK => ?_)
       refine box_step ?hg (N := 10) ?hd (cs := #[.int .i64 0, .int .i64 0]) (t := 27) ?hr ?_; (case hd => rfl); (case hg => rfl); (case hr => (go_simp; done))
       intro gb265 hg w26 hbox hb
       have BK265 := zA (hbox)
       have GW265 := zA (zG : w.heap.size ≤ gb265)
       have GE265 := zA (zG : w.heap.size ≤ gb265)
       have NB252_265 := zA (zU BK252 hg)
       have NB265_252 := zA (zV BK252 hg)
       have NB253_265 := zA (zU BK253 hg)
       have NB265_253 := zA (zV BK253 hg)
       have NB262_265 := zA (zU BK262 hg)
       have NB265_262 := zA (zV BK262 hg)
       replace HO_263002 := zA (Kd.R_below HO_263002.out hb)
       replace BK252 := zA (zW BK252 hb)
       replace BK253 := zA (zW BK253 hb)
       replace BK262 := zA (zW BK262 hb)
       replace HB := zA (below_step zB hb)
       clear hb hbox hg
       refine hK.out _ _ ⟨(blk_cell BK252.out 0).trans rfl, (blk_cell BK252.out 1).trans rfl, (blk_cell BK252.out 2).trans rfl, (zH HB hw263_0 :), (zH HB hw263_1 :), (zH HB hw263_2 :), (zH HB hw264_0 :), (zH HB hw264_1 :), (zH HB hw264_2 :)⟩ (fun hHeld => ?_)
       clear hK K
       refine norm_ (a' := ?_) ?_ ?_
       rotate_left
       ·show Act.put _ (some 10) _ = _
        simp only [Act.put, List.setIfInBounds_toArray, List.set, i64_w, i32_w]
        rfl
       refine zP 13 (N := some 9) (h := ?_)
       refine one_ (i := 14) (N := none) #[true, true, true, true, true, true, true, true, true, true, true, true, true, true, true] rfl rfl (one_of HT_.out (by kernel_rfl)) (by decide) (fun K hK => ?_)
       have hs27 : w26.cell? ⟨gb265, 0, none⟩ = some (.int .i64 0) := (blk_cell BK265.out 0).trans rfl
       have hfs27 := blk_frozen BK265.out 0
       have hns27_0 := NB252_265.out
       have hns27_1 := NB253_265.out
       have hns27_2 := NB262_265.out
       have hms27_0 := NB265_252.out
       have hms27_1 := NB265_253.out
       have hms27_2 := NB265_262.out
       have hs28 : w26.cell? ⟨gb265, 1, none⟩ = some (.int .i64 0) := (blk_cell BK265.out 1).trans rfl
       have hfs28 := blk_frozen BK265.out 1
       have hns28_0 := NB252_265.out
       have hns28_1 := NB253_265.out
       have hns28_2 := NB262_265.out
       have hms28_0 := NB265_252.out
       have hms28_1 := NB265_253.out
       have hms28_2 := NB265_262.out
       refine skip_ (w1 := ?_) (by rfl) rfl ?_ ?_
       rotate_left
       ·go_simp
        rfl
       refine hK.out _ _ ⟨((cell_far (p := ⟨gb265, _, none⟩) NB252_265.out _).trans (((cell_far (p := ⟨gb265, _, none⟩) NB252_265.out _).trans (hHeld.1)))), ((cell_far (p := ⟨gb265, _, none⟩) NB252_265.out _).trans (((cell_far (p := ⟨gb265, _, none⟩) NB252_265.out _).trans (hHeld.2.1)))), ((cell_far (p := ⟨gb265, _, none⟩) NB252_265.out _).trans (((cell_far (p := ⟨gb265, _, none⟩) NB252_265.out _).trans (hHeld.2.2.1)))), ((cell_far (p := ⟨gb265, _, none⟩) (by exact Nat.ne_of_lt (Nat.lt_of_lt_of_le (by have := World.block_lt_of_cell? _ _ hw263_0; exact this) GW265.out)) _).trans (((cell_far (p := ⟨gb265, _, none⟩) (by exact Nat.ne_of_lt (Nat.lt_of_lt_of_le (by have := World.block_lt_of_cell? _ _ hw263_0; exact this) GW265.out)) _).trans (hHeld.2.2.2.1)))), ((cell_far (p := ⟨gb265, _, none⟩) (by exact Nat.ne_of_lt (Nat.lt_of_lt_of_le (by have := World.block_lt_of_cell? _ _ hw263_1; exact this) GW265.out)) _).trans (((cell_far (p := ⟨gb265, _, none⟩) (by exact Nat.ne_of_lt (Nat.lt_of_lt_of_le (by have := World.block_lt_of_cell? _ _ hw263_1; exact this) GW265.out)) _).trans (hHeld.2.2.2.2.1)))), ((cell_far (p := ⟨gb265, _, none⟩) (by exact Nat.ne_of_lt (Nat.lt_of_lt_of_le (by have := World.block_lt_of_cell? _ _ hw263_2; exact this) GW265.out)) _).trans (((cell_far (p := ⟨gb265, _, none⟩) (by exact Nat.ne_of_lt (Nat.lt_of_lt_of_le (by have := World.block_lt_of_cell? _ _ hw263_2; exact this) GW265.out)) _).trans (hHeld.2.2.2.2.2.1)))), ((cell_far (p := ⟨gb265, _, none⟩) (by exact Nat.ne_of_lt (Nat.lt_of_lt_of_le (by have := World.block_lt_of_cell? _ _ hw264_0; exact this) GW265.out)) _).trans (((cell_far (p := ⟨gb265, _, none⟩) (by exact Nat.ne_of_lt (Nat.lt_of_lt_of_le (by have := World.block_lt_of_cell? _ _ hw264_0; exact this) GW265.out)) _).trans (hHeld.2.2.2.2.2.2.1)))), ((cell_far (p := ⟨gb265, _, none⟩) (by exact Nat.ne_of_lt (Nat.lt_of_lt_of_le (by have := World.block_lt_of_cell? _ _ hw264_1; exact this) GW265.out)) _).trans (((cell_far (p := ⟨gb265, _, none⟩) (by exact Nat.ne_of_lt (Nat.lt_of_lt_of_le (by have := World.block_lt_of_cell? _ _ hw264_1; exact this) GW265.out)) _).trans (hHeld.2.2.2.2.2.2.2.1)))), ((cell_far (p := ⟨gb265, _, none⟩) (by exact Nat.ne_of_lt (Nat.lt_of_lt_of_le (by have := World.block_lt_of_cell? _ _ hw264_2; exact this) GW265.out)) _).trans (((cell_far (p := ⟨gb265, _, none⟩) (by exact Nat.ne_of_lt (Nat.lt_of_lt_of_le (by have := World.block_lt_of_cell? _ _ hw264_2; exact this) GW265.out)) _).trans (hHeld.2.2.2.2.2.2.2.2))))⟩ (fun hHeld => ?_)
       clear hK K
       refine done_ (done_of HT_.out (by kernel_rfl)) ?_
       try go_wp2
       go_loopg [9, 11] k2 (fun kq v9 v11 w' => ∃ (x9_3 : ByteArray) (x11_3 : Int) (x263002_3 : List (S89)) (x266000_3 : Int) (x266001_3 : Int) (u263002 : Value), v9 = .string x9_3 ∧ v11 = .int .i64 x11_3 ∧ Aside0 (spec_l09Step.l1 kq (strOfNums y259) x7_4 x8_2 x9_3 x11_3 a0_0 a0_1 l0_2 t254 t255 x263002_3 x266000_3 x266001_3 = some (r1, r2, r3)) ∧ Aside0 (kq ≤ k2) ∧ Aside0 (Kd.R k89 89 w' w.heap.size (fun _ => True) u263002 x263002_3) ∧ Aside0 (w'.heap[gb252]? = some (.cells #[.int .i64 a0_0, .int .i64 a0_1, (.slice (some ad263) l0_2.length c0_2)] 32 (0, 0))) ∧ Aside0 (w'.heap[gb253]? = some (.cells #[.int .i64 0, .int .i64 0, (.slice none 0 0)] 32 (0, 0))) ∧ Aside0 (w'.heap[gb262]? = some (.cells #[.int .i64 t254, .int .i64 t255, u263002] 32 (0, 0))) ∧ Aside0 (w'.heap[gb265]? = some (.cells #[.int .i64 x266000_3, .int .i64 x266001_3] 27 (0, 0))) ∧ Aside0 (Below w.heap.size w w'))
       case atStart => exact ⟨((rd_T89 l0_2 x8_2).f0), (1), (x263002_2), ((rd_T89 l0_2 x8_2).f1.f0), ((rd_T89 l0_2 x8_2).f1.f1), (u263002), (by rfl), (by rfl), H', ⟨Nat.le_refl _⟩, ⟨by exact Kd.R_mono (Kd.R_far (p := ⟨gb265, 1, none⟩) (Kd.R_far (p := ⟨gb265, 0, none⟩) (Kd.R_types HO_263002.out BK265.out (by decide)) (fun _ hk => hk.2) (.int .i64 ((rd_T89 l0_2 x8_2).f1.f0))) (fun _ hk => hk.2) (.int .i64 ((rd_T89 l0_2 x8_2).f1.f1))) (fun _ hk => trivial)⟩, ⟨by refine blk_far ?_ NB252_265.out _; refine blk_far ?_ NB252_265.out _; exact BK252.out⟩, ⟨by refine blk_far ?_ NB253_265.out _; refine blk_far ?_ NB253_265.out _; exact BK253.out⟩, ⟨by refine blk_far ?_ NB262_265.out _; refine blk_far ?_ NB262_265.out _; exact BK262.out⟩, ⟨by refine blk_put (cs := #[.int .i64 ((rd_T89 l0_2 x8_2).f1.f0), .int .i64 0]) ?_ 1 _ rfl; refine blk_put (cs := #[.int .i64 0, .int .i64 0]) ?_ 0 _ rfl; exact BK265.out⟩, ⟨zB⟩⟩
       case round =>
        clear H'
        obtain ⟨x9_3, x11_3, x263002_3, x266000_3, x266001_3, u263002, rfl, rfl, HA, HK3, HO_263002, BK252, BK253, BK262, BK265, HB⟩ := hrel
        cases gk with
        | zero => exact absurd HA.out (by simp [spec_l09Step.l1])
        | succ k3 =>
         have H := HA.out
         clear HA
         simp only [spec_l09Step.l1] at H
         by_cases c29 : (x9_3.size : Int) ≤ a0_1
         ·rw [if_pos c29] at H
          have c29b0 : decide ((x9_3.size : Int) ≤ a0_1) = true := decide_eq_true c29
          clear c29
          replace H := Option.bind_eq_some_iff.mp H
          obtain ⟨⟨t266, t269⟩, A300, H⟩ := H
          replace H : (if x9_3.size + (strOfNums y259).size ≤ 9223372036854775807 then ((spec_l01Frac.f k3 (wrap64 (x266000_3 * x7_4)) (wrap64 (x266001_3 * x11_3))).bind fun bt270 => (spec_l09Step.l1 k3 (strOfNums y259) x7_4 x8_2 (x9_3 ++ (strOfNums y259)) (wrap64 (x11_3 + 1)) a0_0 a0_1 l0_2 t254 t255 t266 bt270.1 bt270.2.1)) else (none)) = some (r1, r2, r3) := H
          have A30 := zA A300
          clear A300
          by_cases c31 : x9_3.size + (strOfNums y259).size ≤ 9223372036854775807
          ·rw [if_pos c31] at H
           have c31b0 := eq_true c31
           have c31b1 : decide (x9_3.size + (strOfNums y259).size ≤ 9223372036854775807) = true := decide_eq_true c31
           try have c31b2 : (9223372036854775807 < x9_3.size + (strOfNums y259).size) = False := eq_false (Nat.not_lt.2 c31)
           replace H := Option.bind_eq_some_iff.mp H
           obtain ⟨⟨t270, t271, t272⟩, A320, H⟩ := H
           replace H : (spec_l09Step.l1 k3 (strOfNums y259) x7_4 x8_2 (x9_3 ++ (strOfNums y259)) (wrap64 (x11_3 + 1)) a0_0 a0_1 l0_2 t254 t255 t266 t270 t271) = some (r1, r2, r3) := H
           have A32 := zA A320
           clear A320
           have H' := zA H
           clear H
           have hnb33 := NB252_253.out
           have hnc33 := NB253_252.out
           have hnb34 := NB252_262.out
           have hnc34 := NB262_252.out
           have hnb35 := NB252_265.out
           have hnc35 := NB265_252.out
           obtain ⟨hcz36_0, hcz36_1, hcz36_2, hfz36_0, hfz36_1, hfz36_2⟩ := zC3 BK252
           have hnb37 := NB262_253.out
           have hnc37 := NB253_262.out
           have hnb38 := NB262_265.out
           have hnc38 := NB265_262.out
           obtain ⟨hcz39_0, hcz39_1, hcz39_2, hfz39_0, hfz39_1, hfz39_2⟩ := zC3 BK262
           have hnb40 := NB265_253.out
           have hnc40 := NB253_265.out
           obtain ⟨hcz41_0, hcz41_1, hfz41_0, hfz41_1⟩ := zC2 BK265
           obtain ⟨Ao42, co42, eo42⟩ := Kd.R_slice HO_263002.out
           subst eo42
           go_wp2_with (first | ((with_reducible refine gate_callee (f := 93) rfl ?_); refine goesL_ (some 60) rfl rfl Try.func93 (by kernel_rfl) rfl #[.slice Ao42 x263002_3.length co42, .string x9_3, .agg #[.int .i64 x266000_3, .int .i64 x266001_3]] rfl zM ?_; (with_reducible refine (spec_l01Put.calls k3 _ _ x263002_3 x9_3 x266000_3 x266001_3 t266 t269 _ ?side1 ?side2 A30.out).mono ?_); (case side1 => repeat (exact (Kd.R_reads' HO_263002.out).2.2)); (case side2 => exact (Kd.R_reads' HO_263002.out).2.1); rintro e w43 ⟨v267, rfl, ho0, hb⟩; refine ⟨_, rfl, ?_⟩; have n0_ := zA (Kd.R_elder' zR (Kd.R_base ho0) hb); have n1_ := zA (Kd.R_lower (Kd.R_new' ho0 (Kd.R_lt (by exact HO_263002.out))) (below_size zB)); have n2_ := zA (blk_below (g := gb252) (o := .cells #[.int .i64 a0_0, .int .i64 a0_1, .slice (some ad263) l0_2.length c0_2] 32 (0, 0)) zK hb); have n3_ := zA (blk_below (g := gb253) (o := .cells #[.int .i64 0, .int .i64 0, .slice none 0 0] 32 (0, 0)) zK hb); have n4_ := zA (blk_below (g := gb262) (o := .cells #[.int .i64 t254, .int .i64 t255, .slice Ao42 x263002_3.length co42] 32 (0, 0)) zK hb); have n5_ := zA (blk_below (g := gb265) (o := .cells #[.int .i64 x266000_3, .int .i64 x266001_3] 27 (0, 0)) zK hb); have n6_ := zA (below_step zB hb); clear HO_263002; clear BK252; clear BK253; clear BK262; clear BK265; clear HB; have HO_263002 := n0_; have HO268 := n1_; have BK252 := n2_; have BK253 := n3_; have BK262 := n4_; have BK265 := n5_; have HB := n6_; clear n0_ n1_ n2_ n3_ n4_ n5_ n6_; (try clear hb); (try clear hb2); (try clear hk); (try clear hi); (try clear ho0); obtain ⟨Ao44, co44, eo44⟩ := Kd.R_slice HO268.out; subst eo44; have hcz45_0 : w43.cell? ⟨gb262, 0, none⟩ = some (.int .i64 t254) := zE BK262; have hcz45_1 : w43.cell? ⟨gb262, 1, none⟩ = some (.int .i64 t255) := zE BK262; have hcz45_2 : w43.cell? ⟨gb262, 2, none⟩ = some (.slice Ao42 x263002_3.length co42) := zE BK262; have hfz45_0 := blk_frozen BK262.out 0; have hfz45_1 := blk_frozen BK262.out 1; have hfz45_2 := blk_frozen BK262.out 2; have hcz46_0 : w43.cell? ⟨gb265, 0, none⟩ = some (.int .i64 x266000_3) := zE BK265; have hcz46_1 : w43.cell? ⟨gb265, 1, none⟩ = some (.int .i64 x266001_3) := zE BK265; have hfz46_0 := blk_frozen BK265.out 0; have hfz46_1 := blk_frozen BK265.out 1) | ((with_reducible refine gate_callee (f := 129) rfl ?_); refine goesL_ (some 77) rfl rfl Try.func129 (by kernel_rfl) rfl #[.int .i64 (wrap64 (x266000_3 * x7_4)), .int .i64 (wrap64 (x266001_3 * x11_3))] rfl zM ?_; (with_reducible refine (spec_l01Frac.calls k3 (wrap64 (x266000_3 * x7_4)) (wrap64 (x266001_3 * x11_3)) t270 t271 t272 _ A32.out).mono ?_); rintro e w47 ⟨rfl, hb⟩; refine ⟨_, rfl, ?_⟩; have n0_ := zA (Kd.R_below (by exact (Kd.R_mono (Kd.R_far (p := ⟨gb262, 2, none⟩) (Kd.R_types HO_263002.out BK262.out (by decide)) (fun _ hk => hk.2) (.slice Ao44 t266.length co44)) (fun _ h_ => h_.1))) hb); have n1_ := zA (Kd.R_below (by exact (Kd.R_mono (Kd.R_far (p := ⟨gb262, 2, none⟩) (Kd.R_types HO268.out BK262.out (by decide)) (fun _ hk => hk.2) (.slice Ao44 t266.length co44)) (fun _ h_ => h_.1))) hb); have n2_ := zA (blk_below (g := gb252) (o := .cells #[.int .i64 a0_0, .int .i64 a0_1, .slice (some ad263) l0_2.length c0_2] 32 (0, 0)) (by refine blk_far ?_ NB252_262.out _; exact zK) hb); have n3_ := zA (blk_below (g := gb253) (o := .cells #[.int .i64 0, .int .i64 0, .slice none 0 0] 32 (0, 0)) (by refine blk_far ?_ NB253_262.out _; exact zK) hb); have n4_ := zA (blk_below (g := gb262) (o := .cells #[.int .i64 t254, .int .i64 t255, .slice Ao44 t266.length co44] 32 (0, 0)) (by refine blk_put (cs := #[.int .i64 t254, .int .i64 t255, .slice Ao42 x263002_3.length co42]) ?_ 2 _ rfl; exact zK) hb); have n5_ := zA (blk_below (g := gb265) (o := .cells #[.int .i64 x266000_3, .int .i64 x266001_3] 27 (0, 0)) (by refine blk_far ?_ NB265_262.out _; exact zK) hb); have n6_ := zA (below_step zB hb); clear HO_263002; clear HO268; clear BK252; clear BK253; clear BK262; clear BK265; clear HB; have HO_263002 := n0_; have HO268 := n1_; have BK252 := n2_; have BK253 := n3_; have BK262 := n4_; have BK265 := n5_; have HB := n6_; clear n0_ n1_ n2_ n3_ n4_ n5_ n6_; (try clear hb); (try clear hb2); (try clear hk); (try clear hi)) | ((with_reducible refine gate_dst (N := 14) rfl ?_); refine box_event ?hg (N := 14) ?hd (cs := #[.int .i64 0, .int .i64 0]) (t := 27) ?hr ?_; (case hd => rfl); (case hg => rfl); (case hr => (go_simp; done)); intro gb273 hg w48 hbox hb; have n0_ := zA (Kd.R_below (by exact HO_263002.out) hb); have n1_ := zA (Kd.R_below (by exact HO268.out) hb); have n2_ := zA (blk_below (g := gb252) (o := .cells #[.int .i64 a0_0, .int .i64 a0_1, .slice (some ad263) l0_2.length c0_2] 32 (0, 0)) zK hb); have n3_ := zA (blk_below (g := gb253) (o := .cells #[.int .i64 0, .int .i64 0, .slice none 0 0] 32 (0, 0)) zK hb); have n4_ := zA (blk_below (g := gb262) (o := .cells #[.int .i64 t254, .int .i64 t255, .slice Ao44 t266.length co44] 32 (0, 0)) zK hb); have n5_ := zA (blk_below (g := gb265) (o := .cells #[.int .i64 x266000_3, .int .i64 x266001_3] 27 (0, 0)) zK hb); have n6_ := zA (below_step zB hb); have n7_ := zA (hbox); have n8_ := zA (zG : w.heap.size ≤ gb273); have n9_ := zA (zG : w.heap.size ≤ gb273); have n10_ := zA ((by rw [hg]; exact Nat.ne_of_lt (blk_lt (g := gb252) (o := .cells #[.int .i64 a0_0, .int .i64 a0_1, .slice (some ad263) l0_2.length c0_2] 32 (0, 0)) zK) : gb252 ≠ gb273)); have n11_ := zA ((by rw [hg]; exact Nat.ne_of_gt (blk_lt (g := gb252) (o := .cells #[.int .i64 a0_0, .int .i64 a0_1, .slice (some ad263) l0_2.length c0_2] 32 (0, 0)) zK) : gb273 ≠ gb252)); have n12_ := zA ((by rw [hg]; exact Nat.ne_of_lt (blk_lt (g := gb253) (o := .cells #[.int .i64 0, .int .i64 0, .slice none 0 0] 32 (0, 0)) zK) : gb253 ≠ gb273)); have n13_ := zA ((by rw [hg]; exact Nat.ne_of_gt (blk_lt (g := gb253) (o := .cells #[.int .i64 0, .int .i64 0, .slice none 0 0] 32 (0, 0)) zK) : gb273 ≠ gb253)); have n14_ := zA ((by rw [hg]; exact Nat.ne_of_lt (blk_lt (g := gb262) (o := .cells #[.int .i64 t254, .int .i64 t255, .slice Ao44 t266.length co44] 32 (0, 0)) zK) : gb262 ≠ gb273)); have n15_ := zA ((by rw [hg]; exact Nat.ne_of_gt (blk_lt (g := gb262) (o := .cells #[.int .i64 t254, .int .i64 t255, .slice Ao44 t266.length co44] 32 (0, 0)) zK) : gb273 ≠ gb262)); have n16_ := zA ((by rw [hg]; exact Nat.ne_of_lt (blk_lt (g := gb265) (o := .cells #[.int .i64 x266000_3, .int .i64 x266001_3] 27 (0, 0)) zK) : gb265 ≠ gb273)); have n17_ := zA ((by rw [hg]; exact Nat.ne_of_gt (blk_lt (g := gb265) (o := .cells #[.int .i64 x266000_3, .int .i64 x266001_3] 27 (0, 0)) zK) : gb273 ≠ gb265)); clear HO_263002; clear HO268; clear BK252; clear BK253; clear BK262; clear BK265; clear HB; have HO_263002 := n0_; have HO268 := n1_; have BK252 := n2_; have BK253 := n3_; have BK262 := n4_; have BK265 := n5_; have HB := n6_; have BK273 := n7_; have GW273 := n8_; have GE273 := n9_; have NB252_273 := n10_; have NB273_252 := n11_; have NB253_273 := n12_; have NB273_253 := n13_; have NB262_273 := n14_; have NB273_262 := n15_; have NB265_273 := n16_; have NB273_265 := n17_; clear n0_ n1_ n2_ n3_ n4_ n5_ n6_ n7_ n8_ n9_ n10_ n11_ n12_ n13_ n14_ n15_ n16_ n17_; clear hb hbox hg; have hnb49 := NB273_252.out; have hnc49 := NB252_273.out; have hnb50 := NB273_253.out; have hnc50 := NB253_273.out; have hnb51 := NB273_262.out; have hnc51 := NB262_273.out; have hnb52 := NB273_265.out; have hnc52 := NB265_273.out; have hcz53_0 : w48.cell? ⟨gb273, 0, none⟩ = some (.int .i64 0) := zE BK273; have hcz53_1 : w48.cell? ⟨gb273, 1, none⟩ = some (.int .i64 0) := zE BK273; have hfz53_0 := blk_frozen BK273.out 0; have hfz53_1 := blk_frozen BK273.out 1; have hcz54_0 : w48.cell? ⟨gb265, 0, none⟩ = some (.int .i64 x266000_3) := zE BK265; have hcz54_1 : w48.cell? ⟨gb265, 1, none⟩ = some (.int .i64 x266001_3) := zE BK265; have hfz54_0 := blk_frozen BK265.out 0; have hfz54_1 := blk_frozen BK265.out 1))
           go_roundg k3
           case measure => have := HJ4.out; have := HK2.out; have := HK3.out; omega
           case rel => exact ⟨(x9_3 ++ (strOfNums y259)), (wrap64 (x11_3 + 1)), (t266), (t270), (t271), (.slice Ao44 t266.length co44), (by rfl), (by rfl), H', ⟨by have := HJ4.out; have := HK2.out; have := HK3.out; omega⟩, ⟨by exact Kd.R_mono (Kd.R_far (p := ⟨gb265, 1, none⟩) (Kd.R_far (p := ⟨gb265, 0, none⟩) (Kd.R_far (p := ⟨gb273, 1, none⟩) (Kd.R_far (p := ⟨gb273, 0, none⟩) (Kd.R_types (Kd.R_types HO268.out BK273.out (by decide)) BK265.out (by decide)) (fun _ hk => hk.1.2) (.int .i64 t270)) (fun _ hk => hk.1.2) (.int .i64 t271)) (fun _ hk => hk.2) (.int .i64 t270)) (fun _ hk => hk.2) (.int .i64 t271)) (fun _ hk => trivial)⟩, ⟨by refine blk_far ?_ NB252_265.out _; refine blk_far ?_ NB252_265.out _; refine blk_far ?_ NB252_273.out _; refine blk_far ?_ NB252_273.out _; exact BK252.out⟩, ⟨by refine blk_far ?_ NB253_265.out _; refine blk_far ?_ NB253_265.out _; refine blk_far ?_ NB253_273.out _; refine blk_far ?_ NB253_273.out _; exact BK253.out⟩, ⟨by refine blk_far ?_ NB262_265.out _; refine blk_far ?_ NB262_265.out _; refine blk_far ?_ NB262_273.out _; refine blk_far ?_ NB262_273.out _; exact BK262.out⟩, ⟨by refine blk_put (cs := #[.int .i64 t270, .int .i64 x266001_3]) ?_ 1 _ rfl; refine blk_put (cs := #[.int .i64 x266000_3, .int .i64 x266001_3]) ?_ 0 _ rfl; refine blk_far ?_ NB265_273.out _; refine blk_far ?_ NB265_273.out _; exact BK265.out⟩, ⟨zB⟩⟩
          ·rw [if_neg c31] at H
           exact absurd H (by simp)
         ·rw [if_neg c29] at H
          have c29b0 : decide ((x9_3.size : Int) ≤ a0_1) = false := decide_eq_false c29
          clear c29
          have H' := zA H
          clear H
          have hnb55 := NB252_253.out
          have hnc55 := NB253_252.out
          have hnb56 := NB252_262.out
          have hnc56 := NB262_252.out
          have hnb57 := NB252_265.out
          have hnc57 := NB265_252.out
          obtain ⟨hcz58_0, hcz58_1, hcz58_2, hfz58_0, hfz58_1, hfz58_2⟩ := zC3 BK252
          go_wp2
          go_roundg k3
          case measure => have := HJ4.out; have := HK2.out; have := HK3.out; omega
          case rel => exact ⟨(wrap64 (x8_2 + 1)), (x263002_3), (u263002), (by rfl), H', ⟨by have := HJ4.out; have := HK2.out; have := HK3.out; omega⟩, ⟨zR⟩, ⟨zK⟩, ⟨zK⟩, ⟨zK⟩, ⟨zB⟩⟩
      ·rw [if_neg c21] at H
       exact absurd H (by simp)
     ·rw [if_neg c20] at H
      have c20b0 : decide (x8_2 < (l0_2.length : Int)) = false := decide_eq_false c20
      clear c20
      simp only [Option.some.injEq, Prod.mk.injEq] at H
      obtain ⟨rfl, rfl, rfl⟩ := H
      have hnb59 := NB252_253.out
      have hnc59 := NB253_252.out
      have hnb60 := NB252_262.out
      have hnc60 := NB262_252.out
      obtain ⟨hcz61_0, hcz61_1, hcz61_2, hfz61_0, hfz61_1, hfz61_2⟩ := zC3 BK252
      have hnb62 := NB262_253.out
      have hnc62 := NB253_262.out
      obtain ⟨hcz63_0, hcz63_1, hcz63_2, hfz63_0, hfz63_1, hfz63_2⟩ := zC3 BK262
      obtain ⟨hcz64_0, hcz64_1, hcz64_2, hfz64_0, hfz64_1, hfz64_2⟩ := zC3 BK253
      obtain ⟨Ao65, co65, eo65⟩ := Kd.R_slice HO_263002.out
      subst eo65
      go_wp2
      refine bodyPost_ret (results_cell_row rfl _ _ gb253 32 #[.int .i64 t254, .int .i64 t255, .slice Ao65 x263002_2.length co65] (0, 0) _ rfl (by refine blk_put (cs := #[.int .i64 t254, .int .i64 t255, .slice none 0 0]) ?_ 2 _ rfl; refine blk_put (cs := #[.int .i64 t254, .int .i64 0, .slice none 0 0]) ?_ 1 _ rfl; refine blk_put (cs := #[.int .i64 0, .int .i64 0, .slice none 0 0]) ?_ 0 _ rfl; exact zK) Try.underlying32 rfl (by kernel_rfl)) rfl ?_
      exact ⟨_, by rfl, by exact Kd.R_mono (Kd.R_far (p := ⟨gb253, 2, none⟩) (Kd.R_far (p := ⟨gb253, 1, none⟩) (Kd.R_far (p := ⟨gb253, 0, none⟩) (Kd.R_types HO_263002.out BK253.out (by decide)) (fun _ hk => hk.2) (.int .i64 t254)) (fun _ hk => hk.2) (.int .i64 t255)) (fun _ hk => hk.2) (.slice Ao65 x263002_2.length co65)) (fun _ hk => trivial), zB⟩

end Go.Proofs.Ytcklefgkbddlhaa.P
