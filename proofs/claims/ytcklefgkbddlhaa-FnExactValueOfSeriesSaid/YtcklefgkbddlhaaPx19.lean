/- What a call of each Go function named below comes to is what the plain function beside it says. -/
import Derived.Test.YtcklefgkbddlhaaPx0
import Derived.Test.YtcklefgkbddlhaaPx1
import Derived.Test.YtcklefgkbddlhaaPx10
import Derived.Test.YtcklefgkbddlhaaPx13
import Derived.Test.YtcklefgkbddlhaaPx18
import Derived.Test.YtcklefgkbddlhaaHandRows
import Derived.Test.YtcklefgkbddlhaaHandRows3
namespace Go.Proofs.Ytcklefgkbddlhaa.P
open Go.RowKit Go.Proofs.YtcklefgkbddlhaaW.PrintWords Go.Proofs.YtcklefgkbddlhaaW.PrintLast Go.Proofs.YtcklefgkbddlhaaW.PrintMore
attribute [local go_sem] max2_int min2_int max_two min_two max_three min_three max_four min_four
set_option linter.unusedVariables false
set_option linter.unusedSimpArgs false
-- NOT PRINTED: function 160 (slices_IndexFunc_int64_int64_160)
-- NOT PRINTED: function 120 (slices_ContainsFunc_int64_int64_120)
/-! ### impl_AreTables: function 63, by hand -/
set_option maxHeartbeats 2000000 in
theorem impl_AreTables_row (m : Int) (B : Nat) (A : Option Addr) (c : Nat) (x : List Int) (W : World) (hc : W.cell? ⟨B, 0, none⟩ = some (.int .i64 m)) (hr : (Kd.int .i64).C W A x.length x) (hx : x.length ≤ c) :
    Calls Try.prog 161 #[.slice A x.length c, .pointer (some ⟨B, 0, none⟩)] W fun e w' => e = .returned (.bool (decide ((x.length : Int) ≠ m) || !(!(x.any fun n => !(Hand.upToB n 1000))))) ∧ Below W.heap.size W w' := by
  have HR := Aside0.mk hr
  have HX := Aside0.mk hx
  have hbig : x.length ≤ 9223372036854775807 := Kd.C_max hr
  clear hr hx
  by_cases hm : (x.length : Int) = m
  · subst hm
    rw [show (decide ((x.length : Int) ≠ (x.length : Int)) || !(!(x.any fun n => !(Hand.upToB n 1000)))) = !(!(x.any fun n => !(Hand.upToB n 1000))) from by simp]
    generalize hQ : (!(x.any fun n => !(Hand.upToB n 1000))) = Q
    have HA := Aside0.mk (show impl_allUpTo.f x 1000 = some Q from by rw [← hQ]; rfl)
    clear hQ
    go_enter Try.func161, Try.ntmps161
    go_wp2_with (go_at_call 148; refine (impl_allUpTo.calls A c x 1000 Q _ HR.out HX.out HA.out).mono ?_; rintro e w' ⟨rfl, hb⟩)
    go_ret
    exact ⟨rfl, hb⟩
  · rw [show (decide ((x.length : Int) ≠ m) || !(!(x.any fun n => !(Hand.upToB n 1000)))) = true from by simp [hm]]
    have b0 : ((x.length : Int) == m) = false := beq_eq_false_iff_ne.mpr hm
    have b1 : ((x.length : Int) != m) = true := bne_iff_ne.mpr hm
    clear hm
    go_enter Try.func161, Try.ntmps161
    go_wp2
    go_ret
    exact ⟨rfl, Below.refl _ _⟩
/-- Has a matrix n rows of n small numbers? -/
def isMat (n : Int) (x : List (List Int)) : Bool := decide ((x.length : Int) = n) && !(x.any fun r => decide ((r.length : Int) ≠ n) || !(!(r.any fun q => !(Hand.upToB q 1000))))
set_option maxHeartbeats 2000000 in
theorem impl_AreTables_mat (m : Int) (A : Option Addr) (c : Nat) (x : List (List Int)) (W : World) (hr : Kd.C (Kd.slice 2 (Kd.int .i64)) W A x.length x) (hx : x.length ≤ c) :
    Calls Try.prog 122 #[.slice A x.length c, .int .i64 m] W fun e w' => e = .returned (.bool (isMat m x)) ∧ Below W.heap.size W w' := by
  have HR := Aside0.mk hr
  have hbig : x.length ≤ 9223372036854775807 := Kd.C_max hr
  clear hr hx
  unfold isMat
  have eg := enters_of Try.func161 (by kernel_rfl) rfl
  generalize hQ : (x.any fun r => decide ((r.length : Int) ≠ m) || !(!(r.any fun q => !(Hand.upToB q 1000)))) = Q
  have HQ := Aside0.mk hQ
  clear hQ
  by_cases hm : (x.length : Int) = m
  · subst hm
    rw [show (decide ((x.length : Int) = (x.length : Int)) && !Q) = !Q from by simp]
    go_enter Try.func122, Try.ntmps122
    go_wp2_with (go_at_call 146; refine (Hand.containsFunc_rows 161 #[.pointer (some ⟨W.heap.size, 0, none⟩)] eg (fun r => decide ((r.length : Int) ≠ (x.length : Int)) || !(!(r.any fun q => !(Hand.upToB q 1000)))) A c x _ (fun A c y W' hb hC hx => impl_AreTables_row (x.length : Int) W.heap.size A c y W' (pw_cell_below hb (by simp)) hC hx) (Kd.C_alloc HR.out _)).mono ?_; rw [HQ.out]; rintro e w' ⟨rfl, hb⟩)
    go_ret
    exact ⟨rfl, below_step (by repeat (first | exact Below.refl _ _ | apply below_alloc | apply pw_below_drewN)) hb⟩
  · rw [show (decide ((x.length : Int) = m) && !Q) = false from by simp [hm]]
    have b0 : ((x.length : Int) == m) = false := beq_eq_false_iff_ne.mpr hm
    have b1 : ((x.length : Int) != m) = true := bne_iff_ne.mpr hm
    clear hm
    go_enter Try.func122, Try.ntmps122
    go_wp2
    go_ret
    exact ⟨rfl, by repeat (first | exact Below.refl _ _ | apply below_alloc | apply pw_below_drewN)⟩
set_option maxHeartbeats 2000000 in
theorem impl_AreTables_ask (m : Int) (B : Nat) (A : Option Addr) (c : Nat) (x : List (List Int)) (W : World) (hc : W.cell? ⟨B, 0, none⟩ = some (.int .i64 m)) (hr : Kd.C (Kd.slice 2 (Kd.int .i64)) W A x.length x) (hx : x.length ≤ c) :
    Calls Try.prog 121 #[.slice A x.length c, .pointer (some ⟨B, 0, none⟩)] W fun e w' => e = .returned (.bool (!(isMat m x))) ∧ Below W.heap.size W w' := by
  have HR := Aside0.mk hr
  have HX := Aside0.mk hx
  clear hr hx
  go_enter Try.func121, Try.ntmps121
  go_wp2_with (go_at_call 122; refine (impl_AreTables_mat m A c x _ HR.out HX.out).mono ?_; rintro e w' ⟨rfl, hb⟩)
  go_ret
  exact ⟨rfl, hb⟩
theorem impl_AreTables_letters (d : Int) : impl_areLetters.f d = some (decide (1 ≤ d) && decide (d ≤ 3)) := by
  unfold impl_areLetters.f impl_within.f
  by_cases h : 1 ≤ d <;> simp [h]
/-- How many rows the first matrix has. -/
def dimOf (l : List (List (List Int))) : Int := ((l.getD 0 []).length : Int)
/-- Are these tables for the letters? -/
def impl_AreTables.f (a0 : Int) (l1 : List (List (List Int))) : Option Bool := some ((decide (1 ≤ a0) && decide (a0 ≤ 3)) && decide ((l1.length : Int) = a0) && (decide (1 ≤ dimOf l1) && decide (dimOf l1 ≤ 6)) && !(l1.any fun x => !(isMat (dimOf l1) x)))
set_option maxHeartbeats 4000000 in
theorem impl_AreTables.calls (a0 : Int) (A1 : Option Addr) (c1 : Nat) (l1 : List (List (List Int))) (r : Bool) (w : World) (hr1 : Kd.C (Kd.slice 48 (Kd.slice 2 (Kd.int .i64))) w A1 l1.length l1) (hc1 : l1.length ≤ c1) (h : impl_AreTables.f a0 l1 = some r) :
    Calls Try.prog 63 #[.int .i64 a0, .slice A1 l1.length c1] w fun e w' => e = .returned (.bool r) ∧ Below w.heap.size w w' := by
  have HR := Aside0.mk hr1
  have HA := Aside0.mk (impl_AreTables_letters a0)
  have hbig : l1.length ≤ 9223372036854775807 := Kd.C_max hr1
  obtain rfl := Option.some.inj h
  clear hr1 hc1 h
  have hd1 : (decide (1 ≤ a0) && decide (a0 ≤ 3)) = true → 1 ≤ a0 := by intro h; simp at h; omega
  generalize hL : (decide (1 ≤ a0) && decide (a0 ≤ 3)) = L at HA hd1
  clear hL
  have eg := enters_of Try.func121 (by kernel_rfl) rfl
  generalize hQ : (l1.any fun x => !(isMat (dimOf l1) x)) = Q
  have HQ := Aside0.mk hQ
  clear hQ
  cases L with
  | false =>
    clear hd1
    rw [show (false && decide ((l1.length : Int) = a0) && (decide (1 ≤ dimOf l1) && decide (dimOf l1 ≤ 6)) && !Q) = false from rfl]
    go_enter Try.func63, Try.ntmps63
    go_wp2_with (go_at_call 118; refine (impl_areLetters.calls a0 false _ HA.out).mono ?_; rintro e w' ⟨rfl, nd, rfl⟩)
    go_ret
    exact ⟨rfl, by repeat (first | exact Below.refl _ _ | apply below_alloc | apply pw_below_drewN)⟩
  | true =>
    have ha := hd1 rfl
    clear hd1
    by_cases hl : (l1.length : Int) = a0
    · subst hl
      have hp : 0 < l1.length := by omega
      clear ha
      obtain ⟨ad, B0, c0, e1, hcell, hc0, hC0⟩ := Hand.at_rows3 HR.out 0 (by omega) (by omega)
      cases e1
      have hdim : (Hand.rdR3 l1 0).length = (l1.getD 0 []).length := rfl
      rw [hdim] at hcell hc0 hC0
      have hbig0 := Kd.C_max hC0
      have hgd : dimOf l1 = ((l1.getD 0 []).length : Int) := rfl
      rw [hgd]
      have HGD := Aside0.mk hgd
      simp only [Int.toNat_zero] at hcell
      rw [show ad.add 0 = ad from by exact Addr.add_zero' ad] at hcell
      rw [show (true && decide ((l1.length : Int) = (l1.length : Int)) && (decide (1 ≤ ((l1.getD 0 []).length : Int)) && decide (((l1.getD 0 []).length : Int) ≤ 6)) && !Q) = ((decide (1 ≤ ((l1.getD 0 []).length : Int)) && decide (((l1.getD 0 []).length : Int) ≤ 6)) && !Q) from by simp]
      clear hgd hdim hC0 hc0
      generalize l1.getD 0 [] = x0 at *
      generalize hW : (decide (1 ≤ (x0.length : Int)) && decide ((x0.length : Int) ≤ 6)) = Wi
      have HW := Aside0.mk hW
      clear hW
      cases Wi with
      | false =>
        rw [show (false && !Q) = false from rfl]
        go_enter Try.func63, Try.ntmps63
        go_wp2_with (first | (go_at_call 118; refine (impl_areLetters.calls (l1.length : Int) true _ HA.out).mono ?_; rintro e w1 ⟨rfl, hd1⟩; have hcell1 := pw_cell_below hd1.below hcell; have HR1 := Aside0.mk (Kd.C_below HR.out hd1.below); have B1 := Aside0.mk hd1.below; clear hcell hd1) | (go_at_call 119; refine (Hand.within_calls (x0.length : Int) 1 6 _).mono ?_; rw [HW.out]; rintro e w' ⟨rfl, nd, rfl⟩))
        go_ret
        exact ⟨rfl, by repeat (first | exact B1.out | apply below_alloc | apply pw_below_drewN)⟩
      | true =>
        rw [show (true && !Q) = !Q from rfl]
        go_enter Try.func63, Try.ntmps63
        go_wp2_with (first | (go_at_call 118; refine (impl_areLetters.calls (l1.length : Int) true _ HA.out).mono ?_; rintro e w1 ⟨rfl, hd1⟩; have hcell1 := pw_cell_below hd1.below hcell; have HR1 := Aside0.mk (Kd.C_below HR.out hd1.below); have B1 := Aside0.mk hd1.below; clear hcell hd1) | (go_at_call 119; refine (Hand.within_calls (x0.length : Int) 1 6 _).mono ?_; rw [HW.out]; rintro e w' ⟨rfl, nd, rfl⟩) | (go_at_call 120; refine (Hand.containsFunc_rows3 121 #[.pointer (some ⟨w1.heap.size, 0, none⟩)] eg (fun x => !(isMat (x0.length : Int) x)) (some ad) c1 l1 _ (fun A c y W' hb hC hx => impl_AreTables_ask (x0.length : Int) w1.heap.size A c y W' (pw_cell_below hb (by simp)) hC hx) (by repeat (first | exact HR1.out | (with_reducible refine Kd.C_alloc ?_ _) | (with_reducible refine Kd.C_drewN ?_ _)))).mono ?_; rw [← HGD.out, HQ.out]; rintro e w' ⟨rfl, hb⟩))
        go_ret
        exact ⟨rfl, below_step (by repeat (first | exact B1.out | apply below_alloc | apply pw_below_drewN)) hb⟩
    · rw [show (true && decide ((l1.length : Int) = a0) && (decide (1 ≤ dimOf l1) && decide (dimOf l1 ≤ 6)) && !Q) = false from by simp [hl]]
      have b0 : ((l1.length : Int) == a0) = false := beq_eq_false_iff_ne.mpr hl
      have b1 : ((l1.length : Int) != a0) = true := bne_iff_ne.mpr hl
      clear hl
      go_enter Try.func63, Try.ntmps63
      go_wp2_with (go_at_call 118; refine (impl_areLetters.calls a0 true _ HA.out).mono ?_; rintro e w' ⟨rfl, nd, rfl⟩)
      go_ret
      exact ⟨rfl, by repeat (first | exact Below.refl _ _ | apply below_alloc | apply pw_below_drewN)⟩
/-! ### impl_ValueOfSeries: function 21 -/
def impl_ValueOfSeries.f (k : Nat) (a0_0 : Int) (a0_1 : Int) (l0_2 : List (S89)) (l1 : List (List (List Int))) : Option ((List (List (S27))) × Int) := (impl_IsSeries.f k a0_0 a0_1 l0_2).bind fun t436 => (if t436 = true then ((impl_AreTables.f a0_0 l1).bind fun t437 => (if t437 = true then ((impl_valueAt.f k a0_0 a0_1 l0_2 l1).bind fun bt438 => (some (bt438.1, bt438.2))) else (some (([] : List (List (S27))), 1)))) else (some (([] : List (List (S27))), 1)))
theorem impl_ValueOfSeries.mono : ∀ a0 a1 a2 a3 k, LeO (impl_ValueOfSeries.f k a0 a1 a2 a3) (impl_ValueOfSeries.f (k + 1) a0 a1 a2 a3) := by
  intro a0 a1 a2 a3 k
  unfold impl_ValueOfSeries.f
  repeat' first
      | (with_reducible exact impl_IsSeries.mono _ _ _ _)
      | (with_reducible exact impl_valueAt.mono _ _ _ _ _)
      | (with_reducible exact LeO.refl _)
      | (with_reducible exact LeO.none _)
      | (with_reducible refine LeO.ite ?_ ?_)
      | (with_reducible refine LeO.bind ?_ (fun _ => ?_))
set_option maxHeartbeats 8000000 in
set_option maxRecDepth 100000 in
theorem impl_ValueOfSeries.calls (k : Nat) (a0_0 : Int) (a0_1 : Int) (A0_2 : Option Addr) (c0_2 : Nat) (l0_2 : List (S89)) (A1 : Option Addr) (c1 : Nat) (l1 : List (List (List Int))) (r1 : List (List (S27))) (r2 : Int) (w : World) (hr0_2 : Kd.C k89 w A0_2 l0_2.length l0_2) (hc0_2 : l0_2.length ≤ c0_2) (hr1 : Kd.C (Kd.slice 48 (Kd.slice 2 (Kd.int .i64))) w A1 l1.length l1) (hc1 : l1.length ≤ c1) (h : impl_ValueOfSeries.f k a0_0 a0_1 l0_2 l1 = some (r1, r2)) :
    Calls Try.prog 21 #[.agg #[.int .i64 a0_0, .int .i64 a0_1, .slice A0_2 l0_2.length c0_2], .slice A1 l1.length c1] w fun e w' => ∃ v0_ : Value, e = .returned (.tuple #[v0_, .int .i64 r2]) ∧ Kd.S (Kd.slice 27 k27) 77 w' w.heap.size (fun _ => True) v0_ r1 ∧ Below w.heap.size w w' := by
  have hu32 := Try.underlying32
  have HR0_2 := Aside0.mk hr0_2
  have HC0_2 := Aside0.mk hc0_2
  clear hr0_2 hc0_2
  have HR1 := Aside0.mk hr1
  have HC1 := Aside0.mk hc1
  clear hr1 hc1
  have HB := Aside0.mk (Below.refl w.heap.size w)
  have H : ((impl_IsSeries.f k a0_0 a0_1 l0_2).bind fun t436 => (if t436 = true then ((impl_AreTables.f a0_0 l1).bind fun t437 => (if t437 = true then ((impl_valueAt.f k a0_0 a0_1 l0_2 l1).bind fun bt438 => (some (bt438.1, bt438.2))) else (some (([] : List (List (S27))), 1)))) else (some (([] : List (List (S27))), 1)))) = some (r1, r2) := h
  clear h
  replace H := Option.bind_eq_some_iff.mp H
  obtain ⟨t436, A30, H⟩ := H
  replace H : (if t436 = true then ((impl_AreTables.f a0_0 l1).bind fun t437 => (if t437 = true then ((impl_valueAt.f k a0_0 a0_1 l0_2 l1).bind fun bt438 => (some (bt438.1, bt438.2))) else (some (([] : List (List (S27))), 1)))) else (some (([] : List (List (S27))), 1))) = some (r1, r2) := H
  have A3 := Aside0.mk A30
  clear A30
  by_cases c4 : t436 = true
  · subst c4
    have H1 : ((impl_AreTables.f a0_0 l1).bind fun t437 => (if t437 = true then ((impl_valueAt.f k a0_0 a0_1 l0_2 l1).bind fun bt438 => (some (bt438.1, bt438.2))) else (some (([] : List (List (S27))), 1)))) = some (r1, r2) := by rw [if_pos rfl] at H; exact H
    clear H
    have H := H1
    clear H1
    replace H := Option.bind_eq_some_iff.mp H
    obtain ⟨t437, A50, H⟩ := H
    replace H : (if t437 = true then ((impl_valueAt.f k a0_0 a0_1 l0_2 l1).bind fun bt438 => (some (bt438.1, bt438.2))) else (some (([] : List (List (S27))), 1))) = some (r1, r2) := H
    have A5 := Aside0.mk A50
    clear A50
    by_cases c6 : t437 = true
    · subst c6
      have H1 : ((impl_valueAt.f k a0_0 a0_1 l0_2 l1).bind fun bt438 => (some (bt438.1, bt438.2))) = some (r1, r2) := by rw [if_pos rfl] at H; exact H
      clear H
      have H := H1
      clear H1
      replace H := Option.bind_eq_some_iff.mp H
      obtain ⟨⟨t438, t441⟩, A70, H⟩ := H
      replace H : (some (t438, t441)) = some (r1, r2) := H
      have A7 := Aside0.mk A70
      clear A70
      simp only [Option.some.injEq, Prod.mk.injEq] at H
      obtain ⟨rfl, rfl⟩ := H
      go_enter Try.func21, Try.ntmps21
      go_wp2_with (first | ((with_reducible refine gate_dst (N := 2) rfl ?_); refine box_event ?hg (N := 2) ?hd (cs := #[.int .i64 a0_0, .int .i64 a0_1, .slice A0_2 l0_2.length c0_2]) (t := 32) ?hr ?_; (case hd => rfl); (case hg => rfl); (case hr => first | (go_simp; done) | (go_simp; rfl)); intro gb435 hg w8 hbox hb; have n0_ := Aside0.mk (below_step zB hb); have n1_ := Aside0.mk (hbox); have n2_ := Aside0.mk (zG : w.heap.size ≤ gb435); have n3_ := Aside0.mk (zG : w.heap.size ≤ gb435); clear HB; have HB := n0_; have BK435 := n1_; have GW435 := n2_; have GE435 := n3_; clear n0_ n1_ n2_ n3_; clear hb hbox hg; have hcz9_0 : w8.cell? ⟨gb435, 0, none⟩ = some (.int .i64 a0_0) := zE BK435; have hcz9_1 : w8.cell? ⟨gb435, 1, none⟩ = some (.int .i64 a0_1) := zE BK435; have hcz9_2 : w8.cell? ⟨gb435, 2, none⟩ = some (.slice A0_2 l0_2.length c0_2) := zE BK435; have hfz9_0 := blk_frozen BK435.out 0; have hfz9_1 := blk_frozen BK435.out 1; have hfz9_2 := blk_frozen BK435.out 2) | ((with_reducible refine gate_callee (f := 57) rfl ?_); refine goesL_ (some 7) rfl rfl Try.func57 (by kernel_rfl) rfl #[.agg #[.int .i64 a0_0, .int .i64 a0_1, .slice A0_2 l0_2.length c0_2]] rfl zM ?_; (with_reducible refine (impl_IsSeries.calls k a0_0 a0_1 _ _ l0_2 true _ ?side1 ?side2 A3.out).mono ?_); (case side1 => repeat (first | exact (Kd.C_below HR0_2.out HB.out) | (with_reducible refine Kd.C_alloc ?_ _) | (with_reducible refine Kd.C_drewN ?_ _) | (with_reducible refine Kd.C_drew ?_))); (case side2 => exact HC0_2.out); rintro e w10 ⟨rfl, hb⟩; refine ⟨_, rfl, ?_⟩; have n0_ := Aside0.mk (blk_below (g := gb435) (o := .cells #[.int .i64 a0_0, .int .i64 a0_1, .slice A0_2 l0_2.length c0_2] 32 (0, 0)) zK hb); have n1_ := Aside0.mk (below_step zB hb); clear BK435; clear HB; have BK435 := n0_; have HB := n1_; clear n0_ n1_; (try clear hb); (try clear hb2); (try clear hk); (try clear hi); have hcz11_0 : w10.cell? ⟨gb435, 0, none⟩ = some (.int .i64 a0_0) := zE BK435; have hcz11_1 : w10.cell? ⟨gb435, 1, none⟩ = some (.int .i64 a0_1) := zE BK435; have hcz11_2 : w10.cell? ⟨gb435, 2, none⟩ = some (.slice A0_2 l0_2.length c0_2) := zE BK435; have hfz11_0 := blk_frozen BK435.out 0; have hfz11_1 := blk_frozen BK435.out 1; have hfz11_2 := blk_frozen BK435.out 2) | (go_at_call 63; (with_reducible refine (impl_AreTables.calls a0_0 _ _ l1 true _ ?side1 ?side2 A5.out).mono ?_); (case side1 => repeat (first | exact (Kd.C_below HR1.out HB.out) | (with_reducible refine Kd.C_alloc ?_ _) | (with_reducible refine Kd.C_drewN ?_ _) | (with_reducible refine Kd.C_drew ?_))); (case side2 => exact HC1.out); rintro e w12 ⟨rfl, hb⟩; have n0_ := Aside0.mk (blk_below (g := gb435) (o := .cells #[.int .i64 a0_0, .int .i64 a0_1, .slice A0_2 l0_2.length c0_2] 32 (0, 0)) zK hb); have n1_ := Aside0.mk (below_step zB hb); clear BK435; clear HB; have BK435 := n0_; have HB := n1_; clear n0_ n1_; (try clear hb); (try clear hb2); (try clear hk); (try clear hi); have hcz13_0 : w12.cell? ⟨gb435, 0, none⟩ = some (.int .i64 a0_0) := zE BK435; have hcz13_1 : w12.cell? ⟨gb435, 1, none⟩ = some (.int .i64 a0_1) := zE BK435; have hcz13_2 : w12.cell? ⟨gb435, 2, none⟩ = some (.slice A0_2 l0_2.length c0_2) := zE BK435; have hfz13_0 := blk_frozen BK435.out 0; have hfz13_1 := blk_frozen BK435.out 1; have hfz13_2 := blk_frozen BK435.out 2) | ((with_reducible refine gate_callee (f := 59) rfl ?_); refine goesL_ (some 18) rfl rfl Try.func59 (by kernel_rfl) rfl #[.agg #[.int .i64 a0_0, .int .i64 a0_1, .slice A0_2 l0_2.length c0_2], .slice A1 l1.length c1] rfl zM ?_; (with_reducible refine (impl_valueAt.calls k a0_0 a0_1 _ _ l0_2 _ _ l1 t438 t441 _ ?side1 ?side2 ?side3 ?side4 A7.out).mono ?_); (case side1 => repeat (first | exact (Kd.C_below HR0_2.out HB.out) | (with_reducible refine Kd.C_alloc ?_ _) | (with_reducible refine Kd.C_drewN ?_ _) | (with_reducible refine Kd.C_drew ?_))); (case side2 => exact HC0_2.out); (case side3 => repeat (first | exact (Kd.C_below HR1.out HB.out) | (with_reducible refine Kd.C_alloc ?_ _) | (with_reducible refine Kd.C_drewN ?_ _) | (with_reducible refine Kd.C_drew ?_))); (case side4 => exact HC1.out); rintro e w14 ⟨v439, rfl, ho0, hb⟩; refine ⟨_, rfl, ?_⟩; have n0_ := Aside0.mk (Kd.S_lower ho0 (below_size zB)); have n1_ := Aside0.mk (blk_below (g := gb435) (o := .cells #[.int .i64 a0_0, .int .i64 a0_1, .slice A0_2 l0_2.length c0_2] 32 (0, 0)) zK hb); have n2_ := Aside0.mk (below_step zB hb); clear BK435; clear HB; have HO440 := n0_; have BK435 := n1_; have HB := n2_; clear n0_ n1_ n2_; (try clear hb); (try clear hb2); (try clear hk); (try clear hi); (try clear ho0)))
      go_ret2
      exact ⟨_, by first | rfl | (simp [errW_none, errW_some] <;> rfl) | (simp [*, errW_none, errW_some] <;> rfl), zS, zB⟩
    · replace c6 := Bool.eq_false_iff.mpr c6
      subst c6
      have H1 : (some (([] : List (List (S27))), 1)) = some (r1, r2) := by rw [if_neg (show ¬ (false = true) by decide)] at H; exact H
      clear H
      have H := H1
      clear H1
      simp only [Option.some.injEq, Prod.mk.injEq] at H
      obtain ⟨rfl, rfl⟩ := H
      go_enter Try.func21, Try.ntmps21
      go_wp2_with (first | ((with_reducible refine gate_dst (N := 2) rfl ?_); refine box_event ?hg (N := 2) ?hd (cs := #[.int .i64 a0_0, .int .i64 a0_1, .slice A0_2 l0_2.length c0_2]) (t := 32) ?hr ?_; (case hd => rfl); (case hg => rfl); (case hr => first | (go_simp; done) | (go_simp; rfl)); intro gb435 hg w15 hbox hb; have n0_ := Aside0.mk (below_step zB hb); have n1_ := Aside0.mk (hbox); have n2_ := Aside0.mk (zG : w.heap.size ≤ gb435); have n3_ := Aside0.mk (zG : w.heap.size ≤ gb435); clear HB; have HB := n0_; have BK435 := n1_; have GW435 := n2_; have GE435 := n3_; clear n0_ n1_ n2_ n3_; clear hb hbox hg; have hcz16_0 : w15.cell? ⟨gb435, 0, none⟩ = some (.int .i64 a0_0) := zE BK435; have hcz16_1 : w15.cell? ⟨gb435, 1, none⟩ = some (.int .i64 a0_1) := zE BK435; have hcz16_2 : w15.cell? ⟨gb435, 2, none⟩ = some (.slice A0_2 l0_2.length c0_2) := zE BK435; have hfz16_0 := blk_frozen BK435.out 0; have hfz16_1 := blk_frozen BK435.out 1; have hfz16_2 := blk_frozen BK435.out 2) | ((with_reducible refine gate_callee (f := 57) rfl ?_); refine goesL_ (some 7) rfl rfl Try.func57 (by kernel_rfl) rfl #[.agg #[.int .i64 a0_0, .int .i64 a0_1, .slice A0_2 l0_2.length c0_2]] rfl zM ?_; (with_reducible refine (impl_IsSeries.calls k a0_0 a0_1 _ _ l0_2 true _ ?side1 ?side2 A3.out).mono ?_); (case side1 => repeat (first | exact (Kd.C_below HR0_2.out HB.out) | (with_reducible refine Kd.C_alloc ?_ _) | (with_reducible refine Kd.C_drewN ?_ _) | (with_reducible refine Kd.C_drew ?_))); (case side2 => exact HC0_2.out); rintro e w17 ⟨rfl, hb⟩; refine ⟨_, rfl, ?_⟩; have n0_ := Aside0.mk (blk_below (g := gb435) (o := .cells #[.int .i64 a0_0, .int .i64 a0_1, .slice A0_2 l0_2.length c0_2] 32 (0, 0)) zK hb); have n1_ := Aside0.mk (below_step zB hb); clear BK435; clear HB; have BK435 := n0_; have HB := n1_; clear n0_ n1_; (try clear hb); (try clear hb2); (try clear hk); (try clear hi); have hcz18_0 : w17.cell? ⟨gb435, 0, none⟩ = some (.int .i64 a0_0) := zE BK435; have hcz18_1 : w17.cell? ⟨gb435, 1, none⟩ = some (.int .i64 a0_1) := zE BK435; have hcz18_2 : w17.cell? ⟨gb435, 2, none⟩ = some (.slice A0_2 l0_2.length c0_2) := zE BK435; have hfz18_0 := blk_frozen BK435.out 0; have hfz18_1 := blk_frozen BK435.out 1; have hfz18_2 := blk_frozen BK435.out 2) | (go_at_call 63; (with_reducible refine (impl_AreTables.calls a0_0 _ _ l1 false _ ?side1 ?side2 A5.out).mono ?_); (case side1 => repeat (first | exact (Kd.C_below HR1.out HB.out) | (with_reducible refine Kd.C_alloc ?_ _) | (with_reducible refine Kd.C_drewN ?_ _) | (with_reducible refine Kd.C_drew ?_))); (case side2 => exact HC1.out); rintro e w19 ⟨rfl, hb⟩; have n0_ := Aside0.mk (blk_below (g := gb435) (o := .cells #[.int .i64 a0_0, .int .i64 a0_1, .slice A0_2 l0_2.length c0_2] 32 (0, 0)) zK hb); have n1_ := Aside0.mk (below_step zB hb); clear BK435; clear HB; have BK435 := n0_; have HB := n1_; clear n0_ n1_; (try clear hb); (try clear hb2); (try clear hk); (try clear hi)))
      go_ret2
      exact ⟨_, by first | rfl | (simp [errW_none, errW_some] <;> rfl) | (simp [*, errW_none, errW_some] <;> rfl), by first | exact Kd.S_nil _ _ _ _ _ | exact Kd.N_nil _ _ _ _ _ | exact Kd.V_nil _ _ _ _ _ | exact Kd.Q_nil _ _ _ _ _ | exact Kd.R_nil _ _ _ _ _, zB⟩
  · replace c4 := Bool.eq_false_iff.mpr c4
    subst c4
    have H1 : (some (([] : List (List (S27))), 1)) = some (r1, r2) := by rw [if_neg (show ¬ (false = true) by decide)] at H; exact H
    clear H
    have H := H1
    clear H1
    simp only [Option.some.injEq, Prod.mk.injEq] at H
    obtain ⟨rfl, rfl⟩ := H
    go_enter Try.func21, Try.ntmps21
    go_wp2_with (first | ((with_reducible refine gate_dst (N := 2) rfl ?_); refine box_event ?hg (N := 2) ?hd (cs := #[.int .i64 a0_0, .int .i64 a0_1, .slice A0_2 l0_2.length c0_2]) (t := 32) ?hr ?_; (case hd => rfl); (case hg => rfl); (case hr => first | (go_simp; done) | (go_simp; rfl)); intro gb435 hg w20 hbox hb; have n0_ := Aside0.mk (below_step zB hb); have n1_ := Aside0.mk (hbox); have n2_ := Aside0.mk (zG : w.heap.size ≤ gb435); have n3_ := Aside0.mk (zG : w.heap.size ≤ gb435); clear HB; have HB := n0_; have BK435 := n1_; have GW435 := n2_; have GE435 := n3_; clear n0_ n1_ n2_ n3_; clear hb hbox hg; have hcz21_0 : w20.cell? ⟨gb435, 0, none⟩ = some (.int .i64 a0_0) := zE BK435; have hcz21_1 : w20.cell? ⟨gb435, 1, none⟩ = some (.int .i64 a0_1) := zE BK435; have hcz21_2 : w20.cell? ⟨gb435, 2, none⟩ = some (.slice A0_2 l0_2.length c0_2) := zE BK435; have hfz21_0 := blk_frozen BK435.out 0; have hfz21_1 := blk_frozen BK435.out 1; have hfz21_2 := blk_frozen BK435.out 2) | ((with_reducible refine gate_callee (f := 57) rfl ?_); refine goesL_ (some 7) rfl rfl Try.func57 (by kernel_rfl) rfl #[.agg #[.int .i64 a0_0, .int .i64 a0_1, .slice A0_2 l0_2.length c0_2]] rfl zM ?_; (with_reducible refine (impl_IsSeries.calls k a0_0 a0_1 _ _ l0_2 false _ ?side1 ?side2 A3.out).mono ?_); (case side1 => repeat (first | exact (Kd.C_below HR0_2.out HB.out) | (with_reducible refine Kd.C_alloc ?_ _) | (with_reducible refine Kd.C_drewN ?_ _) | (with_reducible refine Kd.C_drew ?_))); (case side2 => exact HC0_2.out); rintro e w22 ⟨rfl, hb⟩; refine ⟨_, rfl, ?_⟩; have n0_ := Aside0.mk (blk_below (g := gb435) (o := .cells #[.int .i64 a0_0, .int .i64 a0_1, .slice A0_2 l0_2.length c0_2] 32 (0, 0)) zK hb); have n1_ := Aside0.mk (below_step zB hb); clear BK435; clear HB; have BK435 := n0_; have HB := n1_; clear n0_ n1_; (try clear hb); (try clear hb2); (try clear hk); (try clear hi)))
    go_ret2
    exact ⟨_, by first | rfl | (simp [errW_none, errW_some] <;> rfl) | (simp [*, errW_none, errW_some] <;> rfl), by first | exact Kd.S_nil _ _ _ _ _ | exact Kd.N_nil _ _ _ _ _ | exact Kd.V_nil _ _ _ _ _ | exact Kd.Q_nil _ _ _ _ _ | exact Kd.R_nil _ _ _ _ _, zB⟩
/-! ### laws_eqFractionS: function 64 -/
def laws_eqFractionS.l0 : Nat → List (S27) → List (S27) → Int → Option (Bool)
  | 0, _, _, _ => none
  | k + 1, x0, x1, x5 => if x5 < (x0.length : Int) then (if 0 ≤ x5 then (if x5 < (x1.length : Int) then ((laws_eqFraction.f ((rd_T27 x0 x5).f0) ((rd_T27 x0 x5).f1) ((rd_T27 x1 x5).f0) ((rd_T27 x1 x5).f1)).bind fun t444 => (if t444 = true then (laws_eqFractionS.l0 k x0 x1 (wrap64 (x5 + 1))) else (some false))) else (none)) else (none)) else (some true)
def laws_eqFractionS.f (k : Nat) (l0 : List (S27)) (l1 : List (S27)) : Option (Bool) := if (l0.length : Int) = (l1.length : Int) then (laws_eqFractionS.l0 k l0 l1 0) else (some false)
theorem laws_eqFractionS.mono_l : ∀ k, (∀ y0 y1 y2, LeO (laws_eqFractionS.l0 k y0 y1 y2) (laws_eqFractionS.l0 (k + 1) y0 y1 y2))
  | 0 => fun _ _ _ r h => by simp [laws_eqFractionS.l0] at h
  | k + 1 => by
    have ih0 := laws_eqFractionS.mono_l k
    · intro y0 y1 y2
      unfold laws_eqFractionS.l0
      repeat' first
      | (with_reducible exact ih0 _ _ _)
      | (with_reducible exact LeO.refl _)
      | (with_reducible exact LeO.none _)
      | (with_reducible refine LeO.ite ?_ ?_)
      | (with_reducible refine LeO.bind ?_ (fun _ => ?_))
theorem laws_eqFractionS.mono : ∀ a0 a1 k, LeO (laws_eqFractionS.f k a0 a1) (laws_eqFractionS.f (k + 1) a0 a1) := by
  intro a0 a1 k
  have ih0 := laws_eqFractionS.mono_l k
  unfold laws_eqFractionS.f
  repeat' first
      | (with_reducible exact ih0 _ _ _)
      | (with_reducible exact LeO.refl _)
      | (with_reducible exact LeO.none _)
      | (with_reducible refine LeO.ite ?_ ?_)
      | (with_reducible refine LeO.bind ?_ (fun _ => ?_))
def laws_eqFractionS.T6 : Bool × List (List Nat × List Nat) := (true, [([], []), ([], []), ([0, 1], [0, 1]), ([2], [2]), ([], []), ([], []), ([4, 5], [4, 5]), ([6], [6]), ([3, 7], [3, 7]), ([8], [8])])
def laws_eqFractionS.B6 : List Nat := [0, 0, 3, 7, 0, 0, 48, 112, 255, 511]
theorem laws_eqFractionS.tab6 : rtab .any (opsOf Try.f64 6) = laws_eqFractionS.T6 := by kernel_rfl
theorem laws_eqFractionS.bits6 : waitsOk laws_eqFractionS.T6.2 laws_eqFractionS.B6 = true := by kernel_rfl
set_option maxHeartbeats 8000000 in
set_option maxRecDepth 100000 in
theorem laws_eqFractionS.calls (k : Nat) (A0 : Option Addr) (c0 : Nat) (l0 : List (S27)) (A1 : Option Addr) (c1 : Nat) (l1 : List (S27)) (r : Bool) (w : World) (hr0 : Kd.C k27 w A0 l0.length l0) (hc0 : l0.length ≤ c0) (hr1 : Kd.C k27 w A1 l1.length l1) (hc1 : l1.length ≤ c1) (h : laws_eqFractionS.f k l0 l1 = some r) :
    Calls Try.prog 64 #[.slice A0 l0.length c0, .slice A1 l1.length c1] w fun e w' => e = .returned (.bool r) ∧ Below w.heap.size w w' := by
  have hu27 := Try.underlying27
  have HR0 := Aside0.mk hr0
  have HC0 := Aside0.mk hc0
  clear hr0 hc0
  have HR1 := Aside0.mk hr1
  have HC1 := Aside0.mk hc1
  clear hr1 hc1
  have HB := Aside0.mk (Below.refl w.heap.size w)
  have H : (if (l0.length : Int) = (l1.length : Int) then (laws_eqFractionS.l0 k l0 l1 0) else (some false)) = some r := h
  clear h
  by_cases c3 : (l0.length : Int) = (l1.length : Int)
  · rw [if_pos c3] at H
    have c3b0 : ((l0.length : Int) == (l1.length : Int)) = true := beq_iff_eq.mpr c3
    have c3b1 : ((l0.length : Int) != (l1.length : Int)) = false := bne_eq_false_iff_eq.mpr c3
    have c3b2 : (l0.length == l1.length) = true := by first | simpa using c3 | (simp at c3 ⊢; omega)
    clear c3
    have H' := Aside0.mk H
    clear H
    go_enter Try.func64, Try.ntmps64
    go_wp2
    go_loopg [5] k (fun kq v5 w' => ∃ (x5_1 : Int), v5 = .int .i64 x5_1 ∧ Aside0 (laws_eqFractionS.l0 kq l0 l1 x5_1 = some r) ∧ Aside0 (kq ≤ k) ∧ Aside0 (Below w.heap.size w w'))
    case atStart => exact ⟨(0), (by first | rfl | (simp; done) | (simp [*]; done)), H', ⟨Nat.le_refl _⟩, ⟨zB⟩⟩
    case round =>
      clear H'
      obtain ⟨x5_1, rfl, HA, HK1, HB⟩ := hrel
      cases gk with
      | zero => exact absurd HA.out (by simp [laws_eqFractionS.l0])
      | succ k1 =>
        have H := HA.out
        clear HA
        simp only [laws_eqFractionS.l0] at H
        by_cases c4 : x5_1 < (l0.length : Int)
        · rw [if_pos c4] at H
          have c4b0 : decide (x5_1 < (l0.length : Int)) = true := decide_eq_true c4
          clear c4
          by_cases c5 : 0 ≤ x5_1
          · rw [if_pos c5] at H
            have c5b0 : decide (0 ≤ x5_1) = true := decide_eq_true c5
            clear c5
            by_cases c6 : x5_1 < (l1.length : Int)
            ·rw [if_pos c6] at H
             have c6b0 : decide (x5_1 < (l1.length : Int)) = true := decide_eq_true c6
             clear c6
             replace H := Option.bind_eq_some_iff.mp H
             obtain ⟨t444, A70, H⟩ := H
             replace H : (if t444 = true then (laws_eqFractionS.l0 k1 l0 l1 (wrap64 (x5_1 + 1))) else (some false)) = some r := H
             have A7 := Aside0.mk A70
             clear A70
             by_cases c8 : t444 = true
             ·subst c8
              have H1 : (laws_eqFractionS.l0 k1 l0 l1 (wrap64 (x5_1 + 1))) = some r := by rw [if_pos rfl] at H; exact H
              clear H
              have H := H1
              clear H1
              have H' := Aside0.mk H
              clear H
              try go_wp2
              have n0_ := Aside0.mk (below_drew1 HB.out)
              clear HB
              have HB := n0_
              clear n0_
              have p442 : 0 ≤ (x5_1 : Int) := zD
              have q442 : x5_1 < (l0.length : Int) := zD
              obtain ⟨ad442, e442, hx442_0, hx442_1⟩ := at_T27 HR0.out x5_1 p442 q442
              have hw442_1 := hx442_1
              have hw442_0 := hx442_0
              cases e442
              replace hx442_0 := zH HB hx442_0
              replace hx442_1 := zH HB hx442_1
              replace p442 := eq_true p442
              replace q442 := eq_true q442
              have p443 : 0 ≤ (x5_1 : Int) := zD
              have q443 : x5_1 < (l1.length : Int) := zD
              obtain ⟨ad443, e443, hx443_0, hx443_1⟩ := at_T27 HR1.out x5_1 p443 q443
              have hw443_1 := hx443_1
              have hw443_0 := hx443_0
              cases e443
              replace hx443_0 := zH HB hx443_0
              replace hx443_1 := zH HB hx443_1
              replace p443 := eq_true p443
              replace q443 := eq_true q443
              refine start_ (n := 10) (S := fun w' => w'.cell? (ad442.add ((x5_1).toNat * 2)) = some (.int .i64 ((rd_T27 l0 x5_1).f0)) ∧ w'.cell? ⟨(ad442.add ((x5_1).toNat * 2)).block, (ad442.add ((x5_1).toNat * 2)).off + 1, none⟩ = some (.int .i64 ((rd_T27 l0 x5_1).f1)) ∧ w'.cell? (ad443.add ((x5_1).toNat * 2)) = some (.int .i64 ((rd_T27 l1 x5_1).f0)) ∧ w'.cell? ⟨(ad443.add ((x5_1).toNat * 2)).block, (ad443.add ((x5_1).toNat * 2)).off + 1, none⟩ = some (.int .i64 ((rd_T27 l1 x5_1).f1))) (ds := []) #[false, false, false, false, false, false, false, false, false, false] (by kernel_rfl) rfl rfl ⟨(zH HB hw442_0 :), (zH HB hw442_1 :), (zH HB hw443_0 :), (zH HB hw443_1 :)⟩ (fun hHeld => ?_); refine with_tabW laws_eqFractionS.tab6 laws_eqFractionS.bits6 (fun HT_ HW_ => ?_)
              generalize wr.drew = w9 at HB hx442_0 hx442_1 hx443_0 hx443_1 hHeld ⊢
              refine zP 0 (N := some 17) (h := ?_)
              refine zP 1 (N := some 18) (h := ?_)
              refine zP 2 (N := some 19) (h := ?_)
              refine zP 4 (N := some 21) (h := ?_)
              refine zP 5 (N := some 22) (h := ?_)
              refine zP 6 (N := some 23) (h := ?_)
              refine zT 3 hHeld (N := some 20) (h := ?_)
              refine zT 7 hHeld (N := some 24) (h := ?_)
              refine one_ (i := 8) (N := some 25) #[true, true, true, true, true, true, true, true, true, false] rfl rfl (one_of HT_.out (by kernel_rfl)) (by decide) (fun K hK => ?_)
              refine goes_ Try.func16 (by kernel_rfl) rfl #[.agg #[.int .i64 ((rd_T27 l0 x5_1).f0), .int .i64 ((rd_T27 l0 x5_1).f1)], .agg #[.int .i64 ((rd_T27 l1 x5_1).f0), .int .i64 ((rd_T27 l1 x5_1).f1)]] (by rfl) rfl rfl zM ?_
              with_reducible refine (laws_eqFraction.calls ((rd_T27 l0 x5_1).f0) ((rd_T27 l0 x5_1).f1) ((rd_T27 l1 x5_1).f0) ((rd_T27 l1 x5_1).f1) true _ A7.out).mono ?_
              rintro e w10 ⟨rfl, hb⟩
              refine ⟨_, rfl, ?_⟩
              have n0_ := Aside0.mk (below_step zB hb)
              clear HB
              have HB := n0_
              clear n0_
              (try clear hb)
              (try clear hb2)
              (try clear hk)
              (try clear hi)
              refine hK.out _ _ ⟨(zH HB hw442_0 :), (zH HB hw442_1 :), (zH HB hw443_0 :), (zH HB hw443_1 :)⟩ (fun hHeld => ?_)
              clear hK K
              refine norm_ (a' := ?_) ?_ ?_
              rotate_left
              ·show Act.put _ (some 25) _ = _
               simp only [Act.put, List.setIfInBounds_toArray, List.set_cons_zero, List.set_cons_succ, i64_w, i32_w]
               rfl
              refine zP 9 (N := some 26) (h := ?_)
              refine done_ (done_of HT_.out (by kernel_rfl)) ?_
              try go_wp2
              go_roundg k1
              case measure => have := HK1.out; omega
              case rel => exact ⟨(wrap64 (x5_1 + 1)), (by first | rfl | (simp; done) | (simp [*]; done)), H', ⟨by have := HK1.out; omega⟩, ⟨zB⟩⟩
             ·replace c8 := Bool.eq_false_iff.mpr c8
              subst c8
              have H1 : (some false) = some r := by rw [if_neg (show ¬ (false = true) by decide)] at H; exact H
              clear H
              have H := H1
              clear H1
              obtain rfl := Option.some.inj H
              try go_wp2
              have n0_ := Aside0.mk (below_drew1 HB.out)
              clear HB
              have HB := n0_
              clear n0_
              have p442 : 0 ≤ (x5_1 : Int) := zD
              have q442 : x5_1 < (l0.length : Int) := zD
              obtain ⟨ad442, e442, hx442_0, hx442_1⟩ := at_T27 HR0.out x5_1 p442 q442
              have hw442_1 := hx442_1
              have hw442_0 := hx442_0
              cases e442
              replace hx442_0 := zH HB hx442_0
              replace hx442_1 := zH HB hx442_1
              replace p442 := eq_true p442
              replace q442 := eq_true q442
              have p443 : 0 ≤ (x5_1 : Int) := zD
              have q443 : x5_1 < (l1.length : Int) := zD
              obtain ⟨ad443, e443, hx443_0, hx443_1⟩ := at_T27 HR1.out x5_1 p443 q443
              have hw443_1 := hx443_1
              have hw443_0 := hx443_0
              cases e443
              replace hx443_0 := zH HB hx443_0
              replace hx443_1 := zH HB hx443_1
              replace p443 := eq_true p443
              replace q443 := eq_true q443
              refine start_ (n := 10) (S := fun w' => w'.cell? (ad442.add ((x5_1).toNat * 2)) = some (.int .i64 ((rd_T27 l0 x5_1).f0)) ∧ w'.cell? ⟨(ad442.add ((x5_1).toNat * 2)).block, (ad442.add ((x5_1).toNat * 2)).off + 1, none⟩ = some (.int .i64 ((rd_T27 l0 x5_1).f1)) ∧ w'.cell? (ad443.add ((x5_1).toNat * 2)) = some (.int .i64 ((rd_T27 l1 x5_1).f0)) ∧ w'.cell? ⟨(ad443.add ((x5_1).toNat * 2)).block, (ad443.add ((x5_1).toNat * 2)).off + 1, none⟩ = some (.int .i64 ((rd_T27 l1 x5_1).f1))) (ds := []) #[false, false, false, false, false, false, false, false, false, false] (by kernel_rfl) rfl rfl ⟨(zH HB hw442_0 :), (zH HB hw442_1 :), (zH HB hw443_0 :), (zH HB hw443_1 :)⟩ (fun hHeld => ?_); refine with_tabW laws_eqFractionS.tab6 laws_eqFractionS.bits6 (fun HT_ HW_ => ?_)
              generalize wr.drew = w11 at HB hx442_0 hx442_1 hx443_0 hx443_1 hHeld ⊢
              refine zP 0 (N := some 17) (h := ?_)
              refine zP 1 (N := some 18) (h := ?_)
              refine zP 2 (N := some 19) (h := ?_)
              refine zP 4 (N := some 21) (h := ?_)
              refine zP 5 (N := some 22) (h := ?_)
              refine zP 6 (N := some 23) (h := ?_)
              refine zT 3 hHeld (N := some 20) (h := ?_)
              refine zT 7 hHeld (N := some 24) (h := ?_)
              refine one_ (i := 8) (N := some 25) #[true, true, true, true, true, true, true, true, true, false] rfl rfl (one_of HT_.out (by kernel_rfl)) (by decide) (fun K hK => ?_)
              refine goes_ Try.func16 (by kernel_rfl) rfl #[.agg #[.int .i64 ((rd_T27 l0 x5_1).f0), .int .i64 ((rd_T27 l0 x5_1).f1)], .agg #[.int .i64 ((rd_T27 l1 x5_1).f0), .int .i64 ((rd_T27 l1 x5_1).f1)]] (by rfl) rfl rfl zM ?_
              with_reducible refine (laws_eqFraction.calls ((rd_T27 l0 x5_1).f0) ((rd_T27 l0 x5_1).f1) ((rd_T27 l1 x5_1).f0) ((rd_T27 l1 x5_1).f1) false _ A7.out).mono ?_
              rintro e w12 ⟨rfl, hb⟩
              refine ⟨_, rfl, ?_⟩
              have n0_ := Aside0.mk (below_step zB hb)
              clear HB
              have HB := n0_
              clear n0_
              (try clear hb)
              (try clear hb2)
              (try clear hk)
              (try clear hi)
              refine hK.out _ _ ⟨(zH HB hw442_0 :), (zH HB hw442_1 :), (zH HB hw443_0 :), (zH HB hw443_1 :)⟩ (fun hHeld => ?_)
              clear hK K
              refine norm_ (a' := ?_) ?_ ?_
              rotate_left
              ·show Act.put _ (some 25) _ = _
               simp only [Act.put, List.setIfInBounds_toArray, List.set_cons_zero, List.set_cons_succ, i64_w, i32_w]
               rfl
              refine zP 9 (N := some 26) (h := ?_)
              refine done_ (done_of HT_.out (by kernel_rfl)) ?_
              try go_wp2
              go_ret
              exact ⟨by first | rfl | (simp [errW_none, errW_some] <;> rfl) | (simp [*, errW_none, errW_some] <;> rfl), zB⟩
            ·rw [if_neg c6] at H
             exact absurd H (by simp)
          · rw [if_neg c5] at H
            exact absurd H (by simp)
        · rw [if_neg c4] at H
          have c4b0 : decide (x5_1 < (l0.length : Int)) = false := decide_eq_false c4
          clear c4
          obtain rfl := Option.some.inj H
          go_wp2
          go_ret
          exact ⟨by first | rfl | (simp [errW_none, errW_some] <;> rfl) | (simp [*, errW_none, errW_some] <;> rfl), zB⟩
  · rw [if_neg c3] at H
    have c3b0 : ((l0.length : Int) == (l1.length : Int)) = false := beq_eq_false_iff_ne.mpr c3
    have c3b1 : ((l0.length : Int) != (l1.length : Int)) = true := bne_iff_ne.mpr c3
    have c3b2 : (l0.length == l1.length) = false := by first | simpa using c3 | (simp at c3 ⊢; omega)
    obtain rfl := Option.some.inj H
    go_enter Try.func64, Try.ntmps64
    go_wp2
    go_ret
    exact ⟨by first | rfl | (simp [errW_none, errW_some] <;> rfl) | (simp [*, errW_none, errW_some] <;> rfl), zB⟩
end Go.Proofs.Ytcklefgkbddlhaa.P
