/- What a call of each Go function named below comes to is what the plain Lean function beside it says. Made by a program of this session out of the print of the translation; Lean checks it. -/
import Derived.Test.YtcklefgkbddlhaaPx0
import Derived.Test.YtcklefgkbddlhaaPx9
import Derived.Test.YtcklefgkbddlhaaPx11
import Derived.Test.YtcklefgkbddlhaaPx16
import Derived.Test.YtcklefgkbddlhaaPx17
namespace Go.Proofs.Ytcklefgkbddlhaa.P
open Go.RowKit Go.Proofs.YtcklefgkbddlhaaW.PrintWords Go.Proofs.YtcklefgkbddlhaaW.PrintLast Go.Proofs.YtcklefgkbddlhaaW.PrintMore
attribute [local go_sem] max2_int min2_int max_two min_two max_three min_three max_four min_four   -- for this text's walks alone
set_option linter.unusedVariables false
set_option linter.unusedSimpArgs false


/-! ### impl_ReadByTables: function 15 -/
def impl_ReadByTables.j0 : Nat → ByteArray → Bool → Int → Int → List (S89) → Option (Int × Int × Int)
  | 0, _, _, _, _, _ => none
  | k + 1, x1, x17, x417000, x417001, x417002 => if x17 = true then (some (0, 0, 1)) else (if (x1.size : Int) > x417001 then (some (0, 0, 2)) else ((impl_tablesOf.f k x417000 x1).bind fun t420 => ((impl_valueAt.f k x417000 x417001 x417002 t420).bind fun bt423 => (if bt423.2 = 0 then (if 0 < (bt423.1.length : Int) then (if 0 ≤ (x1.size : Int) then (if (x1.size : Int) < ((rd_L8 bt423.1 0).length : Int) then (some ((rd_T27 (rd_L8 bt423.1 0) (x1.size : Int)).f0, (rd_T27 (rd_L8 bt423.1 0) (x1.size : Int)).f1, 0)) else (none)) else (none)) else (none)) else (some (0, 0, bt423.2))))))
def impl_ReadByTables.f (k : Nat) (a0_0 : Int) (a0_1 : Int) (l0_2 : List (S89)) (a1 : ByteArray) : Option (Int × Int × Int) := (impl_IsSeries.f k a0_0 a0_1 l0_2).bind fun t418 => (if t418 = true then ((impl_isWord.f k a0_0 a1 1099511627776).bind fun t419 => (impl_ReadByTables.j0 k a1 (!t419) a0_0 a0_1 l0_2)) else (impl_ReadByTables.j0 k a1 true a0_0 a0_1 l0_2))
theorem impl_ReadByTables.mono_l : ∀ k, (∀ y0 y1 y2 y3 y4, LeO (impl_ReadByTables.j0 k y0 y1 y2 y3 y4) (impl_ReadByTables.j0 (k + 1) y0 y1 y2 y3 y4))
  | 0 => fun _ _ _ _ _ r h => by simp [impl_ReadByTables.j0] at h
  | k + 1 => by
    have ih0 := impl_ReadByTables.mono_l k
    · intro y0 y1 y2 y3 y4
      unfold impl_ReadByTables.j0
      repeat' first
      | (with_reducible exact ih0 _ _ _ _ _)
      | (with_reducible exact impl_IsSeries.mono _ _ _ _)
      | (with_reducible exact impl_isWord.mono _ _ _ _)
      | (with_reducible exact impl_tablesOf.mono _ _ _)
      | (with_reducible exact impl_valueAt.mono _ _ _ _ _)
      | (with_reducible exact LeO.refl _)
      | (with_reducible exact LeO.none _)
      | (with_reducible refine LeO.ite ?_ ?_)
      | (with_reducible refine LeO.bind ?_ (fun _ => ?_))
      | exact ih0 _ _ _ _ _
      | exact impl_IsSeries.mono _ _ _ _
      | exact impl_isWord.mono _ _ _ _
      | exact impl_tablesOf.mono _ _ _
      | exact impl_valueAt.mono _ _ _ _ _
      | exact LeO.none _
      | refine LeO.ite ?_ ?_
      | refine LeO.bind ?_ (fun _ => ?_)
theorem impl_ReadByTables.mono : ∀ a0 a1 a2 a3 k, LeO (impl_ReadByTables.f k a0 a1 a2 a3) (impl_ReadByTables.f (k + 1) a0 a1 a2 a3) := by
  intro a0 a1 a2 a3 k
  have ih0 := impl_ReadByTables.mono_l k
  unfold impl_ReadByTables.f
  repeat' first
      | (with_reducible exact ih0 _ _ _ _ _)
      | (with_reducible exact impl_IsSeries.mono _ _ _ _)
      | (with_reducible exact impl_isWord.mono _ _ _ _)
      | (with_reducible exact impl_tablesOf.mono _ _ _)
      | (with_reducible exact impl_valueAt.mono _ _ _ _ _)
      | (with_reducible exact LeO.refl _)
      | (with_reducible exact LeO.none _)
      | (with_reducible refine LeO.ite ?_ ?_)
      | (with_reducible refine LeO.bind ?_ (fun _ => ?_))
      | exact ih0 _ _ _ _ _
      | exact impl_IsSeries.mono _ _ _ _
      | exact impl_isWord.mono _ _ _ _
      | exact impl_tablesOf.mono _ _ _
      | exact impl_valueAt.mono _ _ _ _ _
      | exact LeO.none _
      | refine LeO.ite ?_ ?_
      | refine LeO.bind ?_ (fun _ => ?_)
def impl_ReadByTables.T5 : Bool × List (List Nat × List Nat) := (true, [([], []), ([], []), ([1], [1]), ([], []), ([2, 3], [2, 3]), ([0, 4, 4], [0, 4]), ([5], [5]), ([6], [6]), ([6], [6]), ([7, 5, 0, 1, 2, 3, 4, 5, 6, 7], [7]), ([8, 9, 0, 1, 2, 3, 4, 5, 6, 7, 8, 9], [8])])
def impl_ReadByTables.B5 : List Nat := [0, 0, 2, 0, 14, 31, 63, 127, 127, 255, 1023]
theorem impl_ReadByTables.tab5 : rtab .any (opsOf Try.f15 5) = impl_ReadByTables.T5 := by kernel_rfl
theorem impl_ReadByTables.bits5 : waitsOk impl_ReadByTables.T5.2 impl_ReadByTables.B5 = true := by kernel_rfl
set_option maxHeartbeats 8000000 in
set_option maxRecDepth 100000 in
theorem impl_ReadByTables.calls (k : Nat) (a0_0 : Int) (a0_1 : Int) (A0_2 : Option Addr) (c0_2 : Nat) (l0_2 : List (S89)) (a1 : ByteArray) (r1 : Int) (r2 : Int) (r3 : Int) (w : World) (hr0_2 : Kd.C k89 w A0_2 l0_2.length l0_2) (hc0_2 : l0_2.length ≤ c0_2) (h : impl_ReadByTables.f k a0_0 a0_1 l0_2 a1 = some (r1, r2, r3)) :
    Calls Try.prog 15 #[.agg #[.int .i64 a0_0, .int .i64 a0_1, .slice A0_2 l0_2.length c0_2], .string a1] w fun e w' => e = .returned (.tuple #[.agg #[.int .i64 r1, .int .i64 r2], .int .i64 r3]) ∧ Below w.heap.size w w' := by
  have hu32 := Try.underlying32
  have hu27 := Try.underlying27
  have HR0_2 := Aside0.mk hr0_2
  have HC0_2 := Aside0.mk hc0_2
  clear hr0_2 hc0_2
  have HB := Aside0.mk (Below.refl w.heap.size w)
  have H : ((impl_IsSeries.f k a0_0 a0_1 l0_2).bind fun t418 => (if t418 = true then ((impl_isWord.f k a0_0 a1 1099511627776).bind fun t419 => (impl_ReadByTables.j0 k a1 (!t419) a0_0 a0_1 l0_2)) else (impl_ReadByTables.j0 k a1 true a0_0 a0_1 l0_2))) = some (r1, r2, r3) := h
  clear h
  have HC3 := Aside0.mk H
  clear H
  go_enter Try.func15, Try.ntmps15
  go_upto_region 1 with (first | ((with_reducible refine gate_dst (N := 2) rfl ?_); refine box_event ?hg (N := 2) ?hd (cs := #[.int .i64 a0_0, .int .i64 a0_1, .slice A0_2 l0_2.length c0_2]) (t := 32) ?hr ?_; (case hd => rfl); (case hg => rfl); (case hr => first | (go_simp; done) | (go_simp; rfl)); intro gb416 hg w4 hbox hb; have n0_ := Aside0.mk (below_step zB hb); have n1_ := Aside0.mk (hbox); have n2_ := Aside0.mk ((by rw [hg]; exact (below_size zB) : w.heap.size ≤ gb416)); have n3_ := Aside0.mk ((by rw [hg]; exact (below_size zB) : w.heap.size ≤ gb416)); clear HB; have HB := n0_; have BK416 := n1_; have GW416 := n2_; have GE416 := n3_; clear n0_ n1_ n2_ n3_; clear hb hbox hg) | ((with_reducible refine gate_dst (N := 4) rfl ?_); refine box_event ?hg (N := 4) ?hd (cs := #[.int .i64 0, .int .i64 0]) (t := 27) ?hr ?_; (case hd => rfl); (case hg => rfl); (case hr => first | (go_simp; done) | (go_simp; rfl)); intro gb417 hg w5 hbox hb; have n0_ := Aside0.mk (blk_below (g := gb416) (o := .cells #[.int .i64 a0_0, .int .i64 a0_1, .slice A0_2 l0_2.length c0_2] 32 (0, 0)) zK hb); have n1_ := Aside0.mk (below_step zB hb); have n2_ := Aside0.mk (hbox); have n3_ := Aside0.mk ((by rw [hg]; exact (below_size zB) : w.heap.size ≤ gb417)); have n4_ := Aside0.mk ((by rw [hg]; exact (below_size zB) : w.heap.size ≤ gb417)); have n5_ := Aside0.mk ((by rw [hg]; exact Nat.ne_of_lt (blk_lt (g := gb416) (o := .cells #[.int .i64 a0_0, .int .i64 a0_1, .slice A0_2 l0_2.length c0_2] 32 (0, 0)) zK) : gb416 ≠ gb417)); have n6_ := Aside0.mk ((by rw [hg]; exact Nat.ne_of_gt (blk_lt (g := gb416) (o := .cells #[.int .i64 a0_0, .int .i64 a0_1, .slice A0_2 l0_2.length c0_2] 32 (0, 0)) zK) : gb417 ≠ gb416)); clear BK416; clear HB; have BK416 := n0_; have HB := n1_; have BK417 := n2_; have GW417 := n3_; have GE417 := n4_; have NB416_417 := n5_; have NB417_416 := n6_; clear n0_ n1_ n2_ n3_ n4_ n5_ n6_; clear hb hbox hg))
  (try simp only [Act.put, List.setIfInBounds_toArray, List.set_cons_zero, List.set_cons_succ])
  go_cut [17] (fun v17 wc => ∃ (kq : Nat) (x17_2 : Bool), v17 = .bool x17_2 ∧ Aside0 (impl_ReadByTables.j0 kq a1 x17_2 a0_0 a0_1 l0_2 = some (r1, r2, r3)) ∧ Aside0 (kq ≤ k) ∧ Aside0 (wc.heap[gb416]? = some (.cells #[.int .i64 a0_0, .int .i64 a0_1, (.slice A0_2 l0_2.length c0_2)] 32 (0, 0))) ∧ Aside0 (wc.heap[gb417]? = some (.cells #[.int .i64 0, .int .i64 0] 27 (0, 0))) ∧ Aside0 (Below w.heap.size w wc))
  case first =>
    have H := HC3.out
    clear HC3
    replace H := Option.bind_eq_some_iff.mp H
    obtain ⟨t418, A60, H⟩ := H
    replace H : (if t418 = true then ((impl_isWord.f k a0_0 a1 1099511627776).bind fun t419 => (impl_ReadByTables.j0 k a1 (!t419) a0_0 a0_1 l0_2)) else (impl_ReadByTables.j0 k a1 true a0_0 a0_1 l0_2)) = some (r1, r2, r3) := H
    have A6 := Aside0.mk A60
    clear A60
    by_cases c7 : t418 = true
    · subst c7
      have H1 : ((impl_isWord.f k a0_0 a1 1099511627776).bind fun t419 => (impl_ReadByTables.j0 k a1 (!t419) a0_0 a0_1 l0_2)) = some (r1, r2, r3) := by rw [if_pos rfl] at H; exact H
      clear H
      have H := H1
      clear H1
      replace H := Option.bind_eq_some_iff.mp H
      obtain ⟨t419, A80, H⟩ := H
      replace H : (impl_ReadByTables.j0 k a1 (!t419) a0_0 a0_1 l0_2) = some (r1, r2, r3) := H
      have A8 := Aside0.mk A80
      clear A80
      have H' := Aside0.mk H
      clear H
      have hnb9 := NB416_417.out
      have hnc9 := NB417_416.out
      have hcz10_0 : w5.cell? ⟨gb416, 0, none⟩ = some (.int .i64 a0_0) := (blk_cell BK416.out 0).trans rfl
      have hcz10_1 : w5.cell? ⟨gb416, 1, none⟩ = some (.int .i64 a0_1) := (blk_cell BK416.out 1).trans rfl
      have hcz10_2 : w5.cell? ⟨gb416, 2, none⟩ = some (.slice A0_2 l0_2.length c0_2) := (blk_cell BK416.out 2).trans rfl
      have hfz10_0 := blk_frozen BK416.out 0
      have hfz10_1 := blk_frozen BK416.out 1
      have hfz10_2 := blk_frozen BK416.out 2
      go_wp2_with (first | ((with_reducible refine gate_callee (f := 57) rfl ?_); refine goesL_ (some 9) rfl rfl Try.func57 (by kernel_rfl) rfl #[.agg #[.int .i64 a0_0, .int .i64 a0_1, .slice A0_2 l0_2.length c0_2]] rfl zM ?_; (with_reducible refine (impl_IsSeries.calls k a0_0 a0_1 _ _ l0_2 true _ ?side1 ?side2 A6.out).mono ?_); (case side1 => repeat (first | exact (Kd.C_below HR0_2.out HB.out) | (with_reducible refine Kd.C_alloc ?_ _) | (with_reducible refine Kd.C_drewN ?_ _) | (with_reducible refine Kd.C_drew ?_))); (case side2 => exact HC0_2.out); rintro e w11 ⟨rfl, hb⟩; refine ⟨_, rfl, ?_⟩; have n0_ := Aside0.mk (blk_below (g := gb416) (o := .cells #[.int .i64 a0_0, .int .i64 a0_1, .slice A0_2 l0_2.length c0_2] 32 (0, 0)) zK hb); have n1_ := Aside0.mk (blk_below (g := gb417) (o := .cells #[.int .i64 0, .int .i64 0] 27 (0, 0)) zK hb); have n2_ := Aside0.mk (below_step zB hb); clear BK416; clear BK417; clear HB; have BK416 := n0_; have BK417 := n1_; have HB := n2_; clear n0_ n1_ n2_; (try clear hb); (try clear hb2); (try clear hk); (try clear hi); have hcz12_0 : w11.cell? ⟨gb416, 0, none⟩ = some (.int .i64 a0_0) := (blk_cell BK416.out 0).trans rfl; have hcz12_1 : w11.cell? ⟨gb416, 1, none⟩ = some (.int .i64 a0_1) := (blk_cell BK416.out 1).trans rfl; have hcz12_2 : w11.cell? ⟨gb416, 2, none⟩ = some (.slice A0_2 l0_2.length c0_2) := (blk_cell BK416.out 2).trans rfl; have hfz12_0 := blk_frozen BK416.out 0; have hfz12_1 := blk_frozen BK416.out 1; have hfz12_2 := blk_frozen BK416.out 2) | (go_at_call 58; (with_reducible refine (impl_isWord.calls k a0_0 a1 1099511627776 t419 _ A8.out).mono ?_); rintro e w' ⟨rfl, ⟨nd, rfl⟩⟩))
      go_meet
      case rel => exact ⟨_, (!t419), (by first | rfl | (simp; done) | (simp [*]; done)), H', ⟨by first | omega | exact Nat.le_refl _⟩, ⟨zK⟩, ⟨zK⟩, ⟨zB⟩⟩
    · replace c7 := Bool.eq_false_iff.mpr c7
      subst c7
      have H1 : (impl_ReadByTables.j0 k a1 true a0_0 a0_1 l0_2) = some (r1, r2, r3) := by rw [if_neg (show ¬ (false = true) by decide)] at H; exact H
      clear H
      have H := H1
      clear H1
      have H' := Aside0.mk H
      clear H
      have hnb13 := NB416_417.out
      have hnc13 := NB417_416.out
      have hcz14_0 : w5.cell? ⟨gb416, 0, none⟩ = some (.int .i64 a0_0) := (blk_cell BK416.out 0).trans rfl
      have hcz14_1 : w5.cell? ⟨gb416, 1, none⟩ = some (.int .i64 a0_1) := (blk_cell BK416.out 1).trans rfl
      have hcz14_2 : w5.cell? ⟨gb416, 2, none⟩ = some (.slice A0_2 l0_2.length c0_2) := (blk_cell BK416.out 2).trans rfl
      have hfz14_0 := blk_frozen BK416.out 0
      have hfz14_1 := blk_frozen BK416.out 1
      have hfz14_2 := blk_frozen BK416.out 2
      go_wp2_with (first | ((with_reducible refine gate_callee (f := 57) rfl ?_); refine goesL_ (some 9) rfl rfl Try.func57 (by kernel_rfl) rfl #[.agg #[.int .i64 a0_0, .int .i64 a0_1, .slice A0_2 l0_2.length c0_2]] rfl zM ?_; (with_reducible refine (impl_IsSeries.calls k a0_0 a0_1 _ _ l0_2 false _ ?side1 ?side2 A6.out).mono ?_); (case side1 => repeat (first | exact (Kd.C_below HR0_2.out HB.out) | (with_reducible refine Kd.C_alloc ?_ _) | (with_reducible refine Kd.C_drewN ?_ _) | (with_reducible refine Kd.C_drew ?_))); (case side2 => exact HC0_2.out); rintro e w15 ⟨rfl, hb⟩; refine ⟨_, rfl, ?_⟩; have n0_ := Aside0.mk (blk_below (g := gb416) (o := .cells #[.int .i64 a0_0, .int .i64 a0_1, .slice A0_2 l0_2.length c0_2] 32 (0, 0)) zK hb); have n1_ := Aside0.mk (blk_below (g := gb417) (o := .cells #[.int .i64 0, .int .i64 0] 27 (0, 0)) zK hb); have n2_ := Aside0.mk (below_step zB hb); clear BK416; clear BK417; clear HB; have BK416 := n0_; have BK417 := n1_; have HB := n2_; clear n0_ n1_ n2_; (try clear hb); (try clear hb2); (try clear hk); (try clear hi)))
      go_meet
      case rel => exact ⟨_, (true), (by first | rfl | (simp; done) | (simp [*]; done)), H', ⟨by first | omega | exact Nat.le_refl _⟩, ⟨zK⟩, ⟨zK⟩, ⟨zB⟩⟩
  case rest =>
    clear HC3
    obtain ⟨kq, x17_2, rfl, HA, HJ2, BK416, BK417, HB⟩ := hcut
    cases kq with
    | zero => exact absurd HA.out (by simp [impl_ReadByTables.j0])
    | succ kj2 =>
      have H := HA.out
      clear HA
      simp only [impl_ReadByTables.j0] at H
      by_cases c16 : x17_2 = true
      · subst c16
        have H1 : (some (0, 0, 1)) = some (r1, r2, r3) := by rw [if_pos rfl] at H; exact H
        clear H
        have H := H1
        clear H1
        simp only [Option.some.injEq, Prod.mk.injEq] at H
        obtain ⟨rfl, rfl, rfl⟩ := H
        have hnb17 := NB417_416.out
        have hnc17 := NB416_417.out
        have hcz18_0 : wc.cell? ⟨gb417, 0, none⟩ = some (.int .i64 0) := (blk_cell BK417.out 0).trans rfl
        have hcz18_1 : wc.cell? ⟨gb417, 1, none⟩ = some (.int .i64 0) := (blk_cell BK417.out 1).trans rfl
        have hfz18_0 := blk_frozen BK417.out 0
        have hfz18_1 := blk_frozen BK417.out 1
        go_wp2
        refine bodyPost_ret (results_ct rfl _ _ gb417 27 #[.int .i64 0, .int .i64 0] (0, 0) _ rfl (by (with_reducible repeat (first | refine blk_drewN ?_ _ | refine blk_drew ?_ | refine blk_alloc ?_ _)); refine blk_put (cs := #[.int .i64 0, .int .i64 0]) ?_ 1 _ rfl; (with_reducible repeat (first | refine blk_drewN ?_ _ | refine blk_drew ?_ | refine blk_alloc ?_ _)); refine blk_put (cs := #[.int .i64 0, .int .i64 0]) ?_ 0 _ rfl; (with_reducible repeat (first | refine blk_drewN ?_ _ | refine blk_drew ?_ | refine blk_alloc ?_ _)); exact BK417.out) Try.underlying27 rfl (by kernel_rfl)) rfl ?_
        exact ⟨by first | rfl | (simp [errW_none, errW_some] <;> rfl) | (simp [*, errW_none, errW_some] <;> rfl), zB⟩
      · replace c16 := Bool.eq_false_iff.mpr c16
        subst c16
        have H1 : (if (a1.size : Int) > a0_1 then (some (0, 0, 2)) else ((impl_tablesOf.f kj2 a0_0 a1).bind fun t420 => ((impl_valueAt.f kj2 a0_0 a0_1 l0_2 t420).bind fun bt423 => (if bt423.2 = 0 then (if 0 < (bt423.1.length : Int) then (if 0 ≤ (a1.size : Int) then (if (a1.size : Int) < ((rd_L8 bt423.1 0).length : Int) then (some ((rd_T27 (rd_L8 bt423.1 0) (a1.size : Int)).f0, (rd_T27 (rd_L8 bt423.1 0) (a1.size : Int)).f1, 0)) else (none)) else (none)) else (none)) else (some (0, 0, bt423.2)))))) = some (r1, r2, r3) := by rw [if_neg (show ¬ (false = true) by decide)] at H; exact H
        clear H
        have H := H1
        clear H1
        by_cases c19 : (a1.size : Int) > a0_1
        · rw [if_pos c19] at H
          have c19b0 : decide (a0_1 < (a1.size : Int)) = true := decide_eq_true c19
          clear c19
          simp only [Option.some.injEq, Prod.mk.injEq] at H
          obtain ⟨rfl, rfl, rfl⟩ := H
          have hnb20 := NB416_417.out
          have hnc20 := NB417_416.out
          have hcz21_0 : wc.cell? ⟨gb416, 0, none⟩ = some (.int .i64 a0_0) := (blk_cell BK416.out 0).trans rfl
          have hcz21_1 : wc.cell? ⟨gb416, 1, none⟩ = some (.int .i64 a0_1) := (blk_cell BK416.out 1).trans rfl
          have hcz21_2 : wc.cell? ⟨gb416, 2, none⟩ = some (.slice A0_2 l0_2.length c0_2) := (blk_cell BK416.out 2).trans rfl
          have hfz21_0 := blk_frozen BK416.out 0
          have hfz21_1 := blk_frozen BK416.out 1
          have hfz21_2 := blk_frozen BK416.out 2
          have hcz22_0 : wc.cell? ⟨gb417, 0, none⟩ = some (.int .i64 0) := (blk_cell BK417.out 0).trans rfl
          have hcz22_1 : wc.cell? ⟨gb417, 1, none⟩ = some (.int .i64 0) := (blk_cell BK417.out 1).trans rfl
          have hfz22_0 := blk_frozen BK417.out 0
          have hfz22_1 := blk_frozen BK417.out 1
          go_wp2
          refine bodyPost_ret (results_ct rfl _ _ gb417 27 #[.int .i64 0, .int .i64 0] (0, 0) _ rfl (by (with_reducible repeat (first | refine blk_drewN ?_ _ | refine blk_drew ?_ | refine blk_alloc ?_ _)); refine blk_put (cs := #[.int .i64 0, .int .i64 0]) ?_ 1 _ rfl; (with_reducible repeat (first | refine blk_drewN ?_ _ | refine blk_drew ?_ | refine blk_alloc ?_ _)); refine blk_put (cs := #[.int .i64 0, .int .i64 0]) ?_ 0 _ rfl; (with_reducible repeat (first | refine blk_drewN ?_ _ | refine blk_drew ?_ | refine blk_alloc ?_ _)); exact BK417.out) Try.underlying27 rfl (by kernel_rfl)) rfl ?_
          exact ⟨by first | rfl | (simp [errW_none, errW_some] <;> rfl) | (simp [*, errW_none, errW_some] <;> rfl), zB⟩
        · rw [if_neg c19] at H
          have c19b0 : decide (a0_1 < (a1.size : Int)) = false := decide_eq_false c19
          clear c19
          replace H := Option.bind_eq_some_iff.mp H
          obtain ⟨t420, A230, H⟩ := H
          replace H : ((impl_valueAt.f kj2 a0_0 a0_1 l0_2 t420).bind fun bt423 => (if bt423.2 = 0 then (if 0 < (bt423.1.length : Int) then (if 0 ≤ (a1.size : Int) then (if (a1.size : Int) < ((rd_L8 bt423.1 0).length : Int) then (some ((rd_T27 (rd_L8 bt423.1 0) (a1.size : Int)).f0, (rd_T27 (rd_L8 bt423.1 0) (a1.size : Int)).f1, 0)) else (none)) else (none)) else (none)) else (some (0, 0, bt423.2)))) = some (r1, r2, r3) := H
          have A23 := Aside0.mk A230
          clear A230
          replace H := Option.bind_eq_some_iff.mp H
          obtain ⟨⟨t423, t426⟩, A240, H⟩ := H
          replace H : (if t426 = 0 then (if 0 < (t423.length : Int) then (if 0 ≤ (a1.size : Int) then (if (a1.size : Int) < ((rd_L8 t423 0).length : Int) then (some ((rd_T27 (rd_L8 t423 0) (a1.size : Int)).f0, (rd_T27 (rd_L8 t423 0) (a1.size : Int)).f1, 0)) else (none)) else (none)) else (none)) else (some (0, 0, t426))) = some (r1, r2, r3) := H
          have A24 := Aside0.mk A240
          clear A240
          by_cases c25 : t426 = 0
          · rw [if_pos c25] at H
            have c25b0 : (t426 == 0) = true := beq_iff_eq.mpr c25
            have c25b1 : (t426 != 0) = false := bne_eq_false_iff_eq.mpr c25
            clear c25
            by_cases c26 : 0 < (t423.length : Int)
            ·rw [if_pos c26] at H
             have c26b0 : decide (0 < (t423.length : Int)) = true := decide_eq_true c26
             have c26b1 : decide (0 < t423.length) = true := decide_eq_true (by omega)
             clear c26
             by_cases c27 : 0 ≤ (a1.size : Int)
             ·rw [if_pos c27] at H
              have c27b0 : decide (0 ≤ (a1.size : Int)) = true := decide_eq_true c27
              have c27b1 : decide (0 ≤ a1.size) = true := decide_eq_true (by omega)
              clear c27
              by_cases c28 : (a1.size : Int) < ((rd_L8 t423 0).length : Int)
              ·rw [if_pos c28] at H
               have c28b0 : decide ((a1.size : Int) < ((rd_L8 t423 0).length : Int)) = true := decide_eq_true c28
               have c28b1 : decide (a1.size < (rd_L8 t423 0).length) = true := decide_eq_true (Int.ofNat_lt.mp c28)
               clear c28
               simp only [Option.some.injEq, Prod.mk.injEq] at H
               obtain ⟨rfl, rfl, rfl⟩ := H
               have hnb29 := NB416_417.out
               have hnc29 := NB417_416.out
               have hcz30_0 : wc.cell? ⟨gb416, 0, none⟩ = some (.int .i64 a0_0) := (blk_cell BK416.out 0).trans rfl
               have hcz30_1 : wc.cell? ⟨gb416, 1, none⟩ = some (.int .i64 a0_1) := (blk_cell BK416.out 1).trans rfl
               have hcz30_2 : wc.cell? ⟨gb416, 2, none⟩ = some (.slice A0_2 l0_2.length c0_2) := (blk_cell BK416.out 2).trans rfl
               have hfz30_0 := blk_frozen BK416.out 0
               have hfz30_1 := blk_frozen BK416.out 1
               have hfz30_2 := blk_frozen BK416.out 2
               try go_wp2
               have n0_ := Aside0.mk (blk_drew BK416.out)
               have n1_ := Aside0.mk (blk_drew BK417.out)
               have n2_ := Aside0.mk (below_drew1 HB.out)
               clear BK416
               clear BK417
               clear HB
               have BK416 := n0_
               have BK417 := n1_
               have HB := n2_
               clear n0_ n1_ n2_
               refine start_ (n := 11) (S := fun w' => w'.cell? ⟨gb416, 0, none⟩ = some (.int .i64 a0_0) ∧ w'.cell? ⟨gb416, 1, none⟩ = some (.int .i64 a0_1) ∧ w'.cell? ⟨gb416, 2, none⟩ = some (.slice A0_2 l0_2.length c0_2)) (ds := []) #[false, false, false, false, false, false, false, false, false, false, false] (by kernel_rfl) rfl rfl ⟨(blk_cell BK416.out 0).trans rfl, (blk_cell BK416.out 1).trans rfl, (blk_cell BK416.out 2).trans rfl⟩ (fun hHeld => ?_); refine with_tabW impl_ReadByTables.tab5 impl_ReadByTables.bits5 (fun HT_ HW_ => ?_)
               generalize wc.drew = w31 at BK416 BK417 HB hHeld ⊢
               refine zP 1 (N := some 27) (h := ?_)
               refine zP 3 (N := some 29) (h := ?_)
               refine zT 0 hHeld (N := some 26) (h := ?_)
               refine zT 2 hHeld (N := some 28) (h := ?_)
               refine one_ (i := 4) (N := some 30) #[true, true, true, true, true, false, false, false, false, false, false] rfl rfl (one_of HT_.out (by kernel_rfl)) (by decide) (fun K hK => ?_)
               refine goes_ Try.func60 (by kernel_rfl) rfl #[.int .i64 a0_0, .string a1] (by rfl) rfl rfl zM ?_
               with_reducible refine (impl_tablesOf.calls kj2 a0_0 a1 t420 _ A23.out).mono ?_
               rintro e w32 ⟨v421, rfl, ho0, hb⟩
               refine ⟨_, rfl, ?_⟩
               have n0_ := Aside0.mk (Kd.R_lower ho0 (below_size zB))
               have n1_ := Aside0.mk (blk_below (g := gb416) (o := .cells #[.int .i64 a0_0, .int .i64 a0_1, .slice A0_2 l0_2.length c0_2] 32 (0, 0)) zK hb)
               have n2_ := Aside0.mk (blk_below (g := gb417) (o := .cells #[.int .i64 0, .int .i64 0] 27 (0, 0)) zK hb)
               have n3_ := Aside0.mk (below_step zB hb)
               clear BK416
               clear BK417
               clear HB
               have HO422 := n0_
               have BK416 := n1_
               have BK417 := n2_
               have HB := n3_
               clear n0_ n1_ n2_ n3_
               (try clear hb)
               (try clear hb2)
               (try clear hk)
               (try clear hi)
               (try clear ho0)
               obtain ⟨Ao33, co33, eo33⟩ := Kd.R_slice HO422.out
               (first | subst eo33 | (injection eo33 with f1_ f2_ f3_; have f4_ := f1_.symm; have f5_ := f3_.symm; clear f1_ f2_ f3_; subst f4_; subst f5_))
               refine hK.out _ _ ⟨(blk_cell BK416.out 0).trans rfl, (blk_cell BK416.out 1).trans rfl, (blk_cell BK416.out 2).trans rfl⟩ (fun hHeld => ?_)
               clear hK K
               refine norm_ (a' := ?_) ?_ ?_
               rotate_left
               ·show Act.put _ (some 30) _ = _
                simp only [Act.put, List.setIfInBounds_toArray, List.set_cons_zero, List.set_cons_succ, i64_w, i32_w]
                rfl
               refine one_ (i := 5) (N := some 31) #[true, true, true, true, true, true, false, false, false, false, false] rfl rfl (one_of HT_.out (by kernel_rfl)) (by decide) (fun K hK => ?_)
               refine goes_ Try.func59 (by kernel_rfl) rfl #[.agg #[.int .i64 a0_0, .int .i64 a0_1, .slice A0_2 l0_2.length c0_2], .slice Ao33 t420.length co33] (by rfl) rfl rfl zM ?_
               with_reducible refine (impl_valueAt.calls kj2 a0_0 a0_1 _ _ l0_2 _ _ t420 t423 t426 _ ?side1 ?side2 ?side3 ?side4 A24.out).mono ?_
               (case side1 => repeat (first | exact (Kd.C_below HR0_2.out HB.out) | (with_reducible refine Kd.C_alloc ?_ _) | (with_reducible refine Kd.C_drewN ?_ _) | (with_reducible refine Kd.C_drew ?_)))
               (case side2 => exact HC0_2.out)
               (case side3 => repeat (first | exact (Kd.R_reads' HO422.out).2.2 | (with_reducible refine Kd.C_alloc ?_ _) | (with_reducible refine Kd.C_drewN ?_ _) | (with_reducible refine Kd.C_drew ?_)))
               (case side4 => exact (Kd.R_reads' HO422.out).2.1)
               rintro e w34 ⟨v424, rfl, ho0, hb⟩
               refine ⟨_, rfl, ?_⟩
               have n0_ := Aside0.mk (Kd.R_below zR hb)
               have n1_ := Aside0.mk (Kd.S_lower (Kd.S_newB ho0 (g := gb417) (o := .cells #[.int .i64 0, .int .i64 0] 27 (0, 0)) zK) (below_size zB))
               have n2_ := Aside0.mk (blk_below (g := gb416) (o := .cells #[.int .i64 a0_0, .int .i64 a0_1, .slice A0_2 l0_2.length c0_2] 32 (0, 0)) zK hb)
               have n3_ := Aside0.mk (blk_below (g := gb417) (o := .cells #[.int .i64 0, .int .i64 0] 27 (0, 0)) zK hb)
               have n4_ := Aside0.mk (below_step zB hb)
               clear HO422
               clear BK416
               clear BK417
               clear HB
               have HO422 := n0_
               have HO425 := n1_
               have BK416 := n2_
               have BK417 := n3_
               have HB := n4_
               clear n0_ n1_ n2_ n3_ n4_
               (try clear hb)
               (try clear hb2)
               (try clear hk)
               (try clear hi)
               (try clear ho0)
               refine hK.out _ _ ⟨(blk_cell BK416.out 0).trans rfl, (blk_cell BK416.out 1).trans rfl, (blk_cell BK416.out 2).trans rfl⟩ (fun hHeld => ?_)
               clear hK K
               refine norm_ (a' := ?_) ?_ ?_
               rotate_left
               ·show Act.put _ (some 31) _ = _
                simp only [Act.put, List.setIfInBounds_toArray, List.set_cons_zero, List.set_cons_succ, i64_w, i32_w]
                rfl
               refine zP 6 (N := some 25) (h := ?_)
               refine zP 7 (N := some 32) (h := ?_)
               refine zP 8 (N := some 33) (h := ?_)
               refine zP 9 (N := some 6) (h := ?_)
               refine zP 10 (N := some 7) (h := ?_)
               refine done_ (done_of HT_.out (by kernel_rfl)) ?_
               obtain ⟨Ao35, co35, eo35⟩ := Kd.S_slice HO425.out
               subst eo35
               have p427 : 0 ≤ (0 : Int) := (by omega)
               have q427 : 0 < (t423.length : Int) := of_decide_eq_true (by first | (with_reducible assumption) | assumption)
               obtain ⟨ad427, A427_0, c427_0, e427, hx427_0, hl427_0, hi427_0⟩ := at_L8 (Kd.S_reads' HO425.out).2.2 0 p427 q427
               cases e427
               obtain ⟨ce427, hce427, hMe427, hcc427⟩ := Kd.S_get HO425.out [] 0 p427 (by first | exact q427 | exact of_decide_eq_true (by first | (with_reducible assumption) | assumption) | (have e_ := (Kd.S_reads' HO425.out).1; omega))
               obtain ⟨ve427_0, rfl, ge427_0⟩ := hMe427
               have hv427_0 := hcc427 0 _ rfl
               rw [Nat.add_zero, show ((Kd.slice 27 k27)).sz = 1 from rfl, Nat.mul_one] at hv427_0
               replace hv427_0 := Option.some.inj (hv427_0.symm.trans hx427_0)
               rw [hv427_0] at ge427_0
               have HL427_0 := Aside0.mk (show Kd.R k27 27 _ _ _ _ (rd_L8 t423 0) from ge427_0)
               clear hv427_0 ge427_0
               clear hcc427 hce427
               have qi427 : (0 < t423.length) = True := eq_true (by omega)
               (try rw [show ((0 : Int)).toNat = 0 from rfl] at hx427_0)
               (try rw [Addr.add_zero'] at hx427_0)
               have HR427_0 := Aside0.mk hi427_0
               have HC427_0 := Aside0.mk hl427_0
               clear hi427_0 hl427_0
               replace p427 := eq_true p427
               replace q427 := eq_true q427
               have p428 : 0 ≤ ((a1.size : Int) : Int) := of_decide_eq_true (by first | (with_reducible assumption) | assumption)
               have q428 : (a1.size : Int) < ((rd_L8 t423 0).length : Int) := of_decide_eq_true (by first | (with_reducible assumption) | assumption)
               obtain ⟨ad428, e428, hx428_0, hx428_1⟩ := at_T27 (by repeat (first | (with_reducible exact HR427_0.out) | (with_reducible refine Kd.C_alloc ?_ _) | (with_reducible refine Kd.C_drewN ?_ _) | (with_reducible refine Kd.C_drew ?_) | exact HR427_0.out)) (a1.size : Int) p428 q428
               cases e428
               (try simp only [Int.toNat_natCast] at hx428_0 hx428_1)
               replace p428 := eq_true p428
               replace q428 := eq_true q428
               have hcz36_0 : w34.cell? ⟨gb417, 0, none⟩ = some (.int .i64 0) := (blk_cell BK417.out 0).trans rfl
               have hcz36_1 : w34.cell? ⟨gb417, 1, none⟩ = some (.int .i64 0) := (blk_cell BK417.out 1).trans rfl
               have hfz36_0 := blk_frozen BK417.out 0
               have hfz36_1 := blk_frozen BK417.out 1
               try go_wp2
               refine bodyPost_ret (results_ct rfl _ _ gb417 27 #[.int .i64 ((rd_T27 (rd_L8 t423 0) (a1.size : Int)).f0), .int .i64 ((rd_T27 (rd_L8 t423 0) (a1.size : Int)).f1)] (0, 0) _ rfl (by (with_reducible repeat (first | refine blk_drewN ?_ _ | refine blk_drew ?_ | refine blk_alloc ?_ _)); refine blk_put (cs := #[.int .i64 ((rd_T27 (rd_L8 t423 0) (a1.size : Int)).f0), .int .i64 0]) ?_ 1 _ rfl; (with_reducible repeat (first | refine blk_drewN ?_ _ | refine blk_drew ?_ | refine blk_alloc ?_ _)); refine blk_put (cs := #[.int .i64 0, .int .i64 0]) ?_ 0 _ rfl; (with_reducible repeat (first | refine blk_drewN ?_ _ | refine blk_drew ?_ | refine blk_alloc ?_ _)); exact BK417.out) Try.underlying27 rfl (by kernel_rfl)) rfl ?_
               exact ⟨by first | rfl | (simp [errW_none, errW_some] <;> rfl) | (simp [*, errW_none, errW_some] <;> rfl), zB⟩
              ·rw [if_neg c28] at H
               exact absurd H (by simp)
             ·rw [if_neg c27] at H
              exact absurd H (by simp)
            ·rw [if_neg c26] at H
             exact absurd H (by simp)
          · rw [if_neg c25] at H
            have c25b0 : (t426 == 0) = false := beq_eq_false_iff_ne.mpr c25
            have c25b1 : (t426 != 0) = true := bne_iff_ne.mpr c25
            simp only [Option.some.injEq, Prod.mk.injEq] at H
            obtain ⟨rfl, rfl, rfl⟩ := H
            have hnb37 := NB416_417.out
            have hnc37 := NB417_416.out
            have hcz38_0 : wc.cell? ⟨gb416, 0, none⟩ = some (.int .i64 a0_0) := (blk_cell BK416.out 0).trans rfl
            have hcz38_1 : wc.cell? ⟨gb416, 1, none⟩ = some (.int .i64 a0_1) := (blk_cell BK416.out 1).trans rfl
            have hcz38_2 : wc.cell? ⟨gb416, 2, none⟩ = some (.slice A0_2 l0_2.length c0_2) := (blk_cell BK416.out 2).trans rfl
            have hfz38_0 := blk_frozen BK416.out 0
            have hfz38_1 := blk_frozen BK416.out 1
            have hfz38_2 := blk_frozen BK416.out 2
            try go_wp2
            have n0_ := Aside0.mk (blk_drew BK416.out)
            have n1_ := Aside0.mk (blk_drew BK417.out)
            have n2_ := Aside0.mk (below_drew1 HB.out)
            clear BK416
            clear BK417
            clear HB
            have BK416 := n0_
            have BK417 := n1_
            have HB := n2_
            clear n0_ n1_ n2_
            refine start_ (n := 11) (S := fun w' => w'.cell? ⟨gb416, 0, none⟩ = some (.int .i64 a0_0) ∧ w'.cell? ⟨gb416, 1, none⟩ = some (.int .i64 a0_1) ∧ w'.cell? ⟨gb416, 2, none⟩ = some (.slice A0_2 l0_2.length c0_2)) (ds := []) #[false, false, false, false, false, false, false, false, false, false, false] (by kernel_rfl) rfl rfl ⟨(blk_cell BK416.out 0).trans rfl, (blk_cell BK416.out 1).trans rfl, (blk_cell BK416.out 2).trans rfl⟩ (fun hHeld => ?_); refine with_tabW impl_ReadByTables.tab5 impl_ReadByTables.bits5 (fun HT_ HW_ => ?_)
            generalize wc.drew = w39 at BK416 BK417 HB hHeld ⊢
            refine zP 1 (N := some 27) (h := ?_)
            refine zP 3 (N := some 29) (h := ?_)
            refine zT 0 hHeld (N := some 26) (h := ?_)
            refine zT 2 hHeld (N := some 28) (h := ?_)
            refine one_ (i := 4) (N := some 30) #[true, true, true, true, true, false, false, false, false, false, false] rfl rfl (one_of HT_.out (by kernel_rfl)) (by decide) (fun K hK => ?_)
            refine goes_ Try.func60 (by kernel_rfl) rfl #[.int .i64 a0_0, .string a1] (by rfl) rfl rfl zM ?_
            with_reducible refine (impl_tablesOf.calls kj2 a0_0 a1 t420 _ A23.out).mono ?_
            rintro e w40 ⟨v421, rfl, ho0, hb⟩
            refine ⟨_, rfl, ?_⟩
            have n0_ := Aside0.mk (Kd.R_lower ho0 (below_size zB))
            have n1_ := Aside0.mk (blk_below (g := gb416) (o := .cells #[.int .i64 a0_0, .int .i64 a0_1, .slice A0_2 l0_2.length c0_2] 32 (0, 0)) zK hb)
            have n2_ := Aside0.mk (blk_below (g := gb417) (o := .cells #[.int .i64 0, .int .i64 0] 27 (0, 0)) zK hb)
            have n3_ := Aside0.mk (below_step zB hb)
            clear BK416
            clear BK417
            clear HB
            have HO422 := n0_
            have BK416 := n1_
            have BK417 := n2_
            have HB := n3_
            clear n0_ n1_ n2_ n3_
            (try clear hb)
            (try clear hb2)
            (try clear hk)
            (try clear hi)
            (try clear ho0)
            obtain ⟨Ao41, co41, eo41⟩ := Kd.R_slice HO422.out
            (first | subst eo41 | (injection eo41 with f1_ f2_ f3_; have f4_ := f1_.symm; have f5_ := f3_.symm; clear f1_ f2_ f3_; subst f4_; subst f5_))
            refine hK.out _ _ ⟨(blk_cell BK416.out 0).trans rfl, (blk_cell BK416.out 1).trans rfl, (blk_cell BK416.out 2).trans rfl⟩ (fun hHeld => ?_)
            clear hK K
            refine norm_ (a' := ?_) ?_ ?_
            rotate_left
            ·show Act.put _ (some 30) _ = _
             simp only [Act.put, List.setIfInBounds_toArray, List.set_cons_zero, List.set_cons_succ, i64_w, i32_w]
             rfl
            refine one_ (i := 5) (N := some 31) #[true, true, true, true, true, true, false, false, false, false, false] rfl rfl (one_of HT_.out (by kernel_rfl)) (by decide) (fun K hK => ?_)
            refine goes_ Try.func59 (by kernel_rfl) rfl #[.agg #[.int .i64 a0_0, .int .i64 a0_1, .slice A0_2 l0_2.length c0_2], .slice Ao41 t420.length co41] (by rfl) rfl rfl zM ?_
            with_reducible refine (impl_valueAt.calls kj2 a0_0 a0_1 _ _ l0_2 _ _ t420 t423 t426 _ ?side1 ?side2 ?side3 ?side4 A24.out).mono ?_
            (case side1 => repeat (first | exact (Kd.C_below HR0_2.out HB.out) | (with_reducible refine Kd.C_alloc ?_ _) | (with_reducible refine Kd.C_drewN ?_ _) | (with_reducible refine Kd.C_drew ?_)))
            (case side2 => exact HC0_2.out)
            (case side3 => repeat (first | exact (Kd.R_reads' HO422.out).2.2 | (with_reducible refine Kd.C_alloc ?_ _) | (with_reducible refine Kd.C_drewN ?_ _) | (with_reducible refine Kd.C_drew ?_)))
            (case side4 => exact (Kd.R_reads' HO422.out).2.1)
            rintro e w42 ⟨v424, rfl, ho0, hb⟩
            refine ⟨_, rfl, ?_⟩
            have n0_ := Aside0.mk (Kd.R_below zR hb)
            have n1_ := Aside0.mk (Kd.S_lower (Kd.S_newB ho0 (g := gb417) (o := .cells #[.int .i64 0, .int .i64 0] 27 (0, 0)) zK) (below_size zB))
            have n2_ := Aside0.mk (blk_below (g := gb416) (o := .cells #[.int .i64 a0_0, .int .i64 a0_1, .slice A0_2 l0_2.length c0_2] 32 (0, 0)) zK hb)
            have n3_ := Aside0.mk (blk_below (g := gb417) (o := .cells #[.int .i64 0, .int .i64 0] 27 (0, 0)) zK hb)
            have n4_ := Aside0.mk (below_step zB hb)
            clear HO422
            clear BK416
            clear BK417
            clear HB
            have HO422 := n0_
            have HO425 := n1_
            have BK416 := n2_
            have BK417 := n3_
            have HB := n4_
            clear n0_ n1_ n2_ n3_ n4_
            (try clear hb)
            (try clear hb2)
            (try clear hk)
            (try clear hi)
            (try clear ho0)
            refine hK.out _ _ ⟨(blk_cell BK416.out 0).trans rfl, (blk_cell BK416.out 1).trans rfl, (blk_cell BK416.out 2).trans rfl⟩ (fun hHeld => ?_)
            clear hK K
            refine norm_ (a' := ?_) ?_ ?_
            rotate_left
            ·show Act.put _ (some 31) _ = _
             simp only [Act.put, List.setIfInBounds_toArray, List.set_cons_zero, List.set_cons_succ, i64_w, i32_w]
             rfl
            refine zP 6 (N := some 25) (h := ?_)
            refine zP 7 (N := some 32) (h := ?_)
            refine zP 8 (N := some 33) (h := ?_)
            refine zP 9 (N := some 6) (h := ?_)
            refine zP 10 (N := some 7) (h := ?_)
            refine done_ (done_of HT_.out (by kernel_rfl)) ?_
            have hcz43_0 : w42.cell? ⟨gb417, 0, none⟩ = some (.int .i64 0) := (blk_cell BK417.out 0).trans rfl
            have hcz43_1 : w42.cell? ⟨gb417, 1, none⟩ = some (.int .i64 0) := (blk_cell BK417.out 1).trans rfl
            have hfz43_0 := blk_frozen BK417.out 0
            have hfz43_1 := blk_frozen BK417.out 1
            try go_wp2
            refine bodyPost_ret (results_ct rfl _ _ gb417 27 #[.int .i64 0, .int .i64 0] (0, 0) _ rfl (by (with_reducible repeat (first | refine blk_drewN ?_ _ | refine blk_drew ?_ | refine blk_alloc ?_ _)); refine blk_put (cs := #[.int .i64 0, .int .i64 0]) ?_ 1 _ rfl; (with_reducible repeat (first | refine blk_drewN ?_ _ | refine blk_drew ?_ | refine blk_alloc ?_ _)); refine blk_put (cs := #[.int .i64 0, .int .i64 0]) ?_ 0 _ rfl; (with_reducible repeat (first | refine blk_drewN ?_ _ | refine blk_drew ?_ | refine blk_alloc ?_ _)); exact BK417.out) Try.underlying27 rfl (by kernel_rfl)) rfl ?_
            exact ⟨by first | rfl | (simp [errW_none, errW_some] <;> rfl) | (simp [*, errW_none, errW_some] <;> rfl), zB⟩

/-! ### laws_eqFraction: function 16 -/
def laws_eqFraction.f (a0_0 : Int) (a0_1 : Int) (a1_0 : Int) (a1_1 : Int) : Option (Bool) := if a0_0 = a1_0 then (if a0_1 = a1_1 then (some true) else (some false)) else (some false)
set_option maxHeartbeats 8000000 in
set_option maxRecDepth 100000 in
theorem laws_eqFraction.calls (a0_0 : Int) (a0_1 : Int) (a1_0 : Int) (a1_1 : Int) (r : Bool) (w : World) (h : laws_eqFraction.f a0_0 a0_1 a1_0 a1_1 = some r) :
    Calls Try.prog 16 #[.agg #[.int .i64 a0_0, .int .i64 a0_1], .agg #[.int .i64 a1_0, .int .i64 a1_1]] w fun e w' => e = .returned (.bool r) ∧ Below w.heap.size w w' := by
  have hu27 := Try.underlying27
  have HB := Aside0.mk (Below.refl w.heap.size w)
  have H : (if a0_0 = a1_0 then (if a0_1 = a1_1 then (some true) else (some false)) else (some false)) = some r := h
  clear h
  by_cases c3 : a0_0 = a1_0
  · rw [if_pos c3] at H
    have c3b0 : (a0_0 == a1_0) = true := beq_iff_eq.mpr c3
    have c3b1 : (a0_0 != a1_0) = false := bne_eq_false_iff_eq.mpr c3
    clear c3
    by_cases c4 : a0_1 = a1_1
    · rw [if_pos c4] at H
      have c4b0 : (a0_1 == a1_1) = true := beq_iff_eq.mpr c4
      have c4b1 : (a0_1 != a1_1) = false := bne_eq_false_iff_eq.mpr c4
      clear c4
      obtain rfl := Option.some.inj H
      go_enter Try.func16, Try.ntmps16
      go_wp2_with (first | ((with_reducible refine gate_dst (N := 2) rfl ?_); refine box_event ?hg (N := 2) ?hd (cs := #[.int .i64 a0_0, .int .i64 a0_1]) (t := 27) ?hr ?_; (case hd => rfl); (case hg => rfl); (case hr => first | (go_simp; done) | (go_simp; rfl)); intro gb429 hg w5 hbox hb; have n0_ := Aside0.mk (below_step zB hb); have n1_ := Aside0.mk (hbox); have n2_ := Aside0.mk ((by rw [hg]; exact (below_size zB) : w.heap.size ≤ gb429)); have n3_ := Aside0.mk ((by rw [hg]; exact (below_size zB) : w.heap.size ≤ gb429)); clear HB; have HB := n0_; have BK429 := n1_; have GW429 := n2_; have GE429 := n3_; clear n0_ n1_ n2_ n3_; clear hb hbox hg) | ((with_reducible refine gate_dst (N := 3) rfl ?_); refine box_event ?hg (N := 3) ?hd (cs := #[.int .i64 a1_0, .int .i64 a1_1]) (t := 27) ?hr ?_; (case hd => rfl); (case hg => rfl); (case hr => first | (go_simp; done) | (go_simp; rfl)); intro gb430 hg w6 hbox hb; have n0_ := Aside0.mk (blk_below (g := gb429) (o := .cells #[.int .i64 a0_0, .int .i64 a0_1] 27 (0, 0)) zK hb); have n1_ := Aside0.mk (below_step zB hb); have n2_ := Aside0.mk (hbox); have n3_ := Aside0.mk ((by rw [hg]; exact (below_size zB) : w.heap.size ≤ gb430)); have n4_ := Aside0.mk ((by rw [hg]; exact (below_size zB) : w.heap.size ≤ gb430)); have n5_ := Aside0.mk ((by rw [hg]; exact Nat.ne_of_lt (blk_lt (g := gb429) (o := .cells #[.int .i64 a0_0, .int .i64 a0_1] 27 (0, 0)) zK) : gb429 ≠ gb430)); have n6_ := Aside0.mk ((by rw [hg]; exact Nat.ne_of_gt (blk_lt (g := gb429) (o := .cells #[.int .i64 a0_0, .int .i64 a0_1] 27 (0, 0)) zK) : gb430 ≠ gb429)); clear BK429; clear HB; have BK429 := n0_; have HB := n1_; have BK430 := n2_; have GW430 := n3_; have GE430 := n4_; have NB429_430 := n5_; have NB430_429 := n6_; clear n0_ n1_ n2_ n3_ n4_ n5_ n6_; clear hb hbox hg; have hnb7 := NB429_430.out; have hnc7 := NB430_429.out; have hcz8_0 : w6.cell? ⟨gb429, 0, none⟩ = some (.int .i64 a0_0) := (blk_cell BK429.out 0).trans rfl; have hcz8_1 : w6.cell? ⟨gb429, 1, none⟩ = some (.int .i64 a0_1) := (blk_cell BK429.out 1).trans rfl; have hfz8_0 := blk_frozen BK429.out 0; have hfz8_1 := blk_frozen BK429.out 1; have hcz9_0 : w6.cell? ⟨gb430, 0, none⟩ = some (.int .i64 a1_0) := (blk_cell BK430.out 0).trans rfl; have hcz9_1 : w6.cell? ⟨gb430, 1, none⟩ = some (.int .i64 a1_1) := (blk_cell BK430.out 1).trans rfl; have hfz9_0 := blk_frozen BK430.out 0; have hfz9_1 := blk_frozen BK430.out 1))
      go_ret
      exact ⟨by first | rfl | (simp [errW_none, errW_some] <;> rfl) | (simp [*, errW_none, errW_some] <;> rfl), zB⟩
    · rw [if_neg c4] at H
      have c4b0 : (a0_1 == a1_1) = false := beq_eq_false_iff_ne.mpr c4
      have c4b1 : (a0_1 != a1_1) = true := bne_iff_ne.mpr c4
      obtain rfl := Option.some.inj H
      go_enter Try.func16, Try.ntmps16
      go_wp2_with (first | ((with_reducible refine gate_dst (N := 2) rfl ?_); refine box_event ?hg (N := 2) ?hd (cs := #[.int .i64 a0_0, .int .i64 a0_1]) (t := 27) ?hr ?_; (case hd => rfl); (case hg => rfl); (case hr => first | (go_simp; done) | (go_simp; rfl)); intro gb429 hg w10 hbox hb; have n0_ := Aside0.mk (below_step zB hb); have n1_ := Aside0.mk (hbox); have n2_ := Aside0.mk ((by rw [hg]; exact (below_size zB) : w.heap.size ≤ gb429)); have n3_ := Aside0.mk ((by rw [hg]; exact (below_size zB) : w.heap.size ≤ gb429)); clear HB; have HB := n0_; have BK429 := n1_; have GW429 := n2_; have GE429 := n3_; clear n0_ n1_ n2_ n3_; clear hb hbox hg) | ((with_reducible refine gate_dst (N := 3) rfl ?_); refine box_event ?hg (N := 3) ?hd (cs := #[.int .i64 a1_0, .int .i64 a1_1]) (t := 27) ?hr ?_; (case hd => rfl); (case hg => rfl); (case hr => first | (go_simp; done) | (go_simp; rfl)); intro gb430 hg w11 hbox hb; have n0_ := Aside0.mk (blk_below (g := gb429) (o := .cells #[.int .i64 a0_0, .int .i64 a0_1] 27 (0, 0)) zK hb); have n1_ := Aside0.mk (below_step zB hb); have n2_ := Aside0.mk (hbox); have n3_ := Aside0.mk ((by rw [hg]; exact (below_size zB) : w.heap.size ≤ gb430)); have n4_ := Aside0.mk ((by rw [hg]; exact (below_size zB) : w.heap.size ≤ gb430)); have n5_ := Aside0.mk ((by rw [hg]; exact Nat.ne_of_lt (blk_lt (g := gb429) (o := .cells #[.int .i64 a0_0, .int .i64 a0_1] 27 (0, 0)) zK) : gb429 ≠ gb430)); have n6_ := Aside0.mk ((by rw [hg]; exact Nat.ne_of_gt (blk_lt (g := gb429) (o := .cells #[.int .i64 a0_0, .int .i64 a0_1] 27 (0, 0)) zK) : gb430 ≠ gb429)); clear BK429; clear HB; have BK429 := n0_; have HB := n1_; have BK430 := n2_; have GW430 := n3_; have GE430 := n4_; have NB429_430 := n5_; have NB430_429 := n6_; clear n0_ n1_ n2_ n3_ n4_ n5_ n6_; clear hb hbox hg; have hnb12 := NB429_430.out; have hnc12 := NB430_429.out; have hcz13_0 : w11.cell? ⟨gb429, 0, none⟩ = some (.int .i64 a0_0) := (blk_cell BK429.out 0).trans rfl; have hcz13_1 : w11.cell? ⟨gb429, 1, none⟩ = some (.int .i64 a0_1) := (blk_cell BK429.out 1).trans rfl; have hfz13_0 := blk_frozen BK429.out 0; have hfz13_1 := blk_frozen BK429.out 1; have hcz14_0 : w11.cell? ⟨gb430, 0, none⟩ = some (.int .i64 a1_0) := (blk_cell BK430.out 0).trans rfl; have hcz14_1 : w11.cell? ⟨gb430, 1, none⟩ = some (.int .i64 a1_1) := (blk_cell BK430.out 1).trans rfl; have hfz14_0 := blk_frozen BK430.out 0; have hfz14_1 := blk_frozen BK430.out 1))
      go_ret
      exact ⟨by first | rfl | (simp [errW_none, errW_some] <;> rfl) | (simp [*, errW_none, errW_some] <;> rfl), zB⟩
  · rw [if_neg c3] at H
    have c3b0 : (a0_0 == a1_0) = false := beq_eq_false_iff_ne.mpr c3
    have c3b1 : (a0_0 != a1_0) = true := bne_iff_ne.mpr c3
    obtain rfl := Option.some.inj H
    go_enter Try.func16, Try.ntmps16
    go_wp2_with (first | ((with_reducible refine gate_dst (N := 2) rfl ?_); refine box_event ?hg (N := 2) ?hd (cs := #[.int .i64 a0_0, .int .i64 a0_1]) (t := 27) ?hr ?_; (case hd => rfl); (case hg => rfl); (case hr => first | (go_simp; done) | (go_simp; rfl)); intro gb429 hg w15 hbox hb; have n0_ := Aside0.mk (below_step zB hb); have n1_ := Aside0.mk (hbox); have n2_ := Aside0.mk ((by rw [hg]; exact (below_size zB) : w.heap.size ≤ gb429)); have n3_ := Aside0.mk ((by rw [hg]; exact (below_size zB) : w.heap.size ≤ gb429)); clear HB; have HB := n0_; have BK429 := n1_; have GW429 := n2_; have GE429 := n3_; clear n0_ n1_ n2_ n3_; clear hb hbox hg) | ((with_reducible refine gate_dst (N := 3) rfl ?_); refine box_event ?hg (N := 3) ?hd (cs := #[.int .i64 a1_0, .int .i64 a1_1]) (t := 27) ?hr ?_; (case hd => rfl); (case hg => rfl); (case hr => first | (go_simp; done) | (go_simp; rfl)); intro gb430 hg w16 hbox hb; have n0_ := Aside0.mk (blk_below (g := gb429) (o := .cells #[.int .i64 a0_0, .int .i64 a0_1] 27 (0, 0)) zK hb); have n1_ := Aside0.mk (below_step zB hb); have n2_ := Aside0.mk (hbox); have n3_ := Aside0.mk ((by rw [hg]; exact (below_size zB) : w.heap.size ≤ gb430)); have n4_ := Aside0.mk ((by rw [hg]; exact (below_size zB) : w.heap.size ≤ gb430)); have n5_ := Aside0.mk ((by rw [hg]; exact Nat.ne_of_lt (blk_lt (g := gb429) (o := .cells #[.int .i64 a0_0, .int .i64 a0_1] 27 (0, 0)) zK) : gb429 ≠ gb430)); have n6_ := Aside0.mk ((by rw [hg]; exact Nat.ne_of_gt (blk_lt (g := gb429) (o := .cells #[.int .i64 a0_0, .int .i64 a0_1] 27 (0, 0)) zK) : gb430 ≠ gb429)); clear BK429; clear HB; have BK429 := n0_; have HB := n1_; have BK430 := n2_; have GW430 := n3_; have GE430 := n4_; have NB429_430 := n5_; have NB430_429 := n6_; clear n0_ n1_ n2_ n3_ n4_ n5_ n6_; clear hb hbox hg; have hnb17 := NB429_430.out; have hnc17 := NB430_429.out; have hcz18_0 : w16.cell? ⟨gb429, 0, none⟩ = some (.int .i64 a0_0) := (blk_cell BK429.out 0).trans rfl; have hcz18_1 : w16.cell? ⟨gb429, 1, none⟩ = some (.int .i64 a0_1) := (blk_cell BK429.out 1).trans rfl; have hfz18_0 := blk_frozen BK429.out 0; have hfz18_1 := blk_frozen BK429.out 1; have hcz19_0 : w16.cell? ⟨gb430, 0, none⟩ = some (.int .i64 a1_0) := (blk_cell BK430.out 0).trans rfl; have hcz19_1 : w16.cell? ⟨gb430, 1, none⟩ = some (.int .i64 a1_1) := (blk_cell BK430.out 1).trans rfl; have hfz19_0 := blk_frozen BK430.out 0; have hfz19_1 := blk_frozen BK430.out 1))
    go_ret
    exact ⟨by first | rfl | (simp [errW_none, errW_some] <;> rfl) | (simp [*, errW_none, errW_some] <;> rfl), zB⟩


end Go.Proofs.Ytcklefgkbddlhaa.P
