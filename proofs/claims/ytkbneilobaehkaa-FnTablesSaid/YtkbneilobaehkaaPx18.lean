/- What a call of each Go function named below comes to is what the plain Lean function beside it says. Made by a program of this session out of the print of the translation; Lean checks it. -/
import Derived.Test.YtkbneilobaehkaaPx0
import Derived.Test.YtkbneilobaehkaaPx1
import Derived.Test.YtkbneilobaehkaaPx4
import Derived.Test.YtkbneilobaehkaaPx7
import Derived.Test.YtkbneilobaehkaaPx8
import Derived.Test.YtkbneilobaehkaaPx13
import Derived.Test.YtkbneilobaehkaaPx15
namespace Go.Proofs.Ytkbneilobaehkaa.P
open Go.RowKit Go.Proofs.YtkbneilobaehkaaW.PrintWords Go.Proofs.YtkbneilobaehkaaW.PrintLast Go.Proofs.YtkbneilobaehkaaW.PrintMore
attribute [local go_sem] max2_int min2_int max_two min_two max_three min_three max_four min_four   -- for this text's walks alone
set_option linter.unusedVariables false
set_option linter.unusedSimpArgs false
set_option maxHeartbeats 8000000
set_option maxRecDepth 100000


/-! ### spec_DrawTableCommutator: function 21 -/
def spec_DrawTableCommutator.f (k : Nat) (l0 : List Int) : Option (Int × (List (List (List Int))) × Int × Int) := (spec_l01From.f k l0).bind fun bt486 => ((spec_l08With.f k l0).bind fun bt490 => ((spec_l01Next.f bt486.1 bt486.2.1 bt486.2.2 (mx bt490.1 1)).bind fun bt495 => ((spec_l01Next.f bt486.1 bt495.2.1 bt495.2.2 16).bind fun bt498 => ((spec_l01Next.f bt486.1 bt498.2.1 bt498.2.2 (wrap64 ((mx bt490.1 1) + (wrap64 (Int.tdiv bt498.1 15))))).bind fun bt501 => (some (bt490.1, bt490.2.1, bt495.1, bt501.1))))))
theorem spec_DrawTableCommutator.mono : ∀ a0 k, LeO (spec_DrawTableCommutator.f k a0) (spec_DrawTableCommutator.f (k + 1) a0) := by
 intro a0 k
 unfold spec_DrawTableCommutator.f
 repeat' first
  | (with_reducible exact spec_l01From.mono _ _)
  | (with_reducible exact spec_l08With.mono _ _)
  | (with_reducible exact LeO.refl _)
  | (with_reducible exact LeO.none _)
  | (with_reducible refine LeO.ite ?_ ?_)
  | (with_reducible refine LeO.bind ?_ (fun _ => ?_))
theorem spec_DrawTableCommutator.calls (k : Nat) (A0 : Option Addr) (c0 : Nat) (l0 : List Int) (r1 : Int) (r2 : List (List (List Int))) (r3 : Int) (r4 : Int) (w : World) (hr0 : Kd.C (Kd.int .u8) w A0 l0.length l0) (hc0 : l0.length ≤ c0) (h : spec_DrawTableCommutator.f k l0 = some (r1, r2, r3, r4)) :
 Calls Try.prog 21 #[.slice A0 l0.length c0] w fun e w' => ∃ v1_ : Value, e = .returned (.tuple #[.int .i64 r1, v1_, .int .i64 r3, .int .i64 r4]) ∧ Kd.N (Kd.slice 45 (Kd.slice 2 (Kd.int .i64))) 27 w' w.heap.size (fun k_ => (w.heap.size ≤ k_)) v1_ r2 ∧ Below w.heap.size w w' := by
 have HR0 := zA hr0
 have HC0 := zA hc0
 clear hr0 hc0
 have HB := zA (Below.refl w.heap.size w)
 have H : ((spec_l01From.f k l0).bind fun bt486 => ((spec_l08With.f k l0).bind fun bt490 => ((spec_l01Next.f bt486.1 bt486.2.1 bt486.2.2 (mx bt490.1 1)).bind fun bt495 => ((spec_l01Next.f bt486.1 bt495.2.1 bt495.2.2 16).bind fun bt498 => ((spec_l01Next.f bt486.1 bt498.2.1 bt498.2.2 (wrap64 ((mx bt490.1 1) + (wrap64 (Int.tdiv bt498.1 15))))).bind fun bt501 => (some (bt490.1, bt490.2.1, bt495.1, bt501.1))))))) = some (r1, r2, r3, r4) := h
 clear h
 replace H := Option.bind_eq_some_iff.mp H
 obtain ⟨⟨t486, t487, t488⟩, A20, H⟩ := H
 replace H : ((spec_l08With.f k l0).bind fun bt490 => ((spec_l01Next.f t486 t487 t488 (mx bt490.1 1)).bind fun bt495 => ((spec_l01Next.f t486 bt495.2.1 bt495.2.2 16).bind fun bt498 => ((spec_l01Next.f t486 bt498.2.1 bt498.2.2 (wrap64 ((mx bt490.1 1) + (wrap64 (Int.tdiv bt498.1 15))))).bind fun bt501 => (some (bt490.1, bt490.2.1, bt495.1, bt501.1)))))) = some (r1, r2, r3, r4) := H
 have A2 := zA A20
 clear A20
 replace H := Option.bind_eq_some_iff.mp H
 obtain ⟨⟨t490, t491, t494⟩, A30, H⟩ := H
 replace H : ((spec_l01Next.f t486 t487 t488 (mx t490 1)).bind fun bt495 => ((spec_l01Next.f t486 bt495.2.1 bt495.2.2 16).bind fun bt498 => ((spec_l01Next.f t486 bt498.2.1 bt498.2.2 (wrap64 ((mx t490 1) + (wrap64 (Int.tdiv bt498.1 15))))).bind fun bt501 => (some (t490, t491, bt495.1, bt501.1))))) = some (r1, r2, r3, r4) := H
 have A3 := zA A30
 clear A30
 obtain ⟨ji4, hji4⟩ : ∃ j_ : Int, (mx t490 1) = j_ := ⟨_, rfl⟩
 replace H : ((spec_l01Next.f t486 t487 t488 (ji4)).bind fun bt495 => ((spec_l01Next.f t486 bt495.2.1 bt495.2.2 16).bind fun bt498 => ((spec_l01Next.f t486 bt498.2.1 bt498.2.2 (wrap64 ((ji4) + (wrap64 (Int.tdiv bt498.1 15))))).bind fun bt501 => (some (t490, t491, bt495.1, bt501.1))))) = some (r1, r2, r3, r4) := by (rw [hji4] at H; exact H)
 (try rw [hji4] at A2)
 (try rw [hji4] at A3)
 (try (have hji4l : 1 ≤ ji4 := by (rw [← hji4]; unfold mx; (repeat' split) <;> omega)))
 (try (have hji4m : 0 ≤ ji4 := by omega))
 have hji4_ : (if t490 < 1 then 1 else t490) = ji4 := hji4
 replace H := Option.bind_eq_some_iff.mp H
 obtain ⟨⟨t495, t496, t497⟩, A50, H⟩ := H
 replace H : ((spec_l01Next.f t486 t496 t497 16).bind fun bt498 => ((spec_l01Next.f t486 bt498.2.1 bt498.2.2 (wrap64 ((ji4) + (wrap64 (Int.tdiv bt498.1 15))))).bind fun bt501 => (some (t490, t491, t495, bt501.1)))) = some (r1, r2, r3, r4) := H
 have A5 := zA A50
 clear A50
 replace H := Option.bind_eq_some_iff.mp H
 obtain ⟨⟨t498, t499, t500⟩, A70, H⟩ := H
 replace H : ((spec_l01Next.f t486 t499 t500 (wrap64 ((ji4) + (wrap64 (Int.tdiv t498 15))))).bind fun bt501 => (some (t490, t491, t495, bt501.1))) = some (r1, r2, r3, r4) := H
 have A7 := zA A70
 clear A70
 replace H := Option.bind_eq_some_iff.mp H
 obtain ⟨⟨t501, t502, t503⟩, A80, H⟩ := H
 replace H : (some (t490, t491, t495, t501)) = some (r1, r2, r3, r4) := H
 have A8 := zA A80
 clear A80
 simp only [Option.some.injEq, Prod.mk.injEq] at H
 obtain ⟨rfl, rfl, rfl, rfl⟩ := H
 go_enter Try.func21, Try.ntmps21
 go_wp2_with (first | ((with_reducible refine gate_callee (f := 56) rfl ?_); refine goesL_ (some 11) rfl rfl Try.func56 (by kernel_rfl) rfl #[.slice A0 l0.length c0] rfl zM ?_; (with_reducible refine (spec_l01From.calls k _ _ l0 t486 t487 t488 w _ ?side1 ?side2 ?side3 A2.out).mono ?_); (case side1 => repeat ((with_reducible exact HB.out))); (case side2 => exact HR0.out); (case side3 => exact HC0.out); rintro e w9 ⟨g489, rfl, hi, hb, hb2⟩; refine ⟨_, rfl, ?_⟩; have HI489 := zA (hi); replace HB := zA (hb); (try clear hb); (try clear hb2); (try clear hk); (try clear hi)) | ((with_reducible refine gate_callee (f := 45) rfl ?_); refine goesL_ (some 14) rfl rfl Try.func45 (by kernel_rfl) rfl #[.slice A0 l0.length c0] rfl zM ?_; (with_reducible refine (spec_l08With.calls k _ _ l0 t490 t491 t494 _ ?side1 ?side2 A3.out).mono ?_); (case side1 => repeat (exact (Kd.C_below HR0.out HB.out))); (case side2 => exact HC0.out); rintro e w10 ⟨v492, rfl, ho0, hb⟩; refine ⟨_, rfl, ?_⟩; have n0_ := zA (Kd.N_lower (Kd.N_mono (ok' := fun k_ => (w.heap.size ≤ k_) ∧ k_ ≠ g489) ho0 (fun k_ hk_ => ⟨(Nat.le_trans (below_size (by repeat ((with_reducible exact HB.out)))) hk_), (IsS104.fresh (by repeat ((with_reducible exact HI489.out))) k_ hk_)⟩)) (below_size (by repeat ((with_reducible exact HB.out))))); have n1_ := zA (IsS104.below (by repeat ((with_reducible exact HI489.out))) hb); have n2_ := zA (below_step (by repeat ((with_reducible exact HB.out))) hb); clear HI489; clear HB; have HO493 := n0_; have HI489 := n1_; have HB := n2_; clear n0_ n1_ n2_; (try clear hb); (try clear hb2); (try clear hk); (try clear hi); (try clear ho0)) | ((with_reducible refine gate_callee (f := 67) rfl ?_); refine goesL_ (some 23) rfl rfl Try.func67 (by kernel_rfl) rfl #[.pointer (some ⟨g489, 0, none⟩), .int .i64 ji4] rfl (by (try simp only [List.map_toArray, List.map_cons, List.map_nil]); rfl) ?_; (with_reducible refine (spec_l01Next.calls g489 t486 t487 t488 ji4 t495 t496 t497 w _ ?side1 ?side2 A5.out).mono ?_); (case side1 => repeat ((with_reducible exact HI489.out))); (case side2 => repeat ((with_reducible exact HB.out))); rintro e w11 ⟨rfl, hi, hb, hk⟩; refine ⟨_, rfl, ?_⟩; replace HO493 := zA (Kd.N_mono (Kd.N_keep (Kd.N_mono (ok := fun k_ => (((w.heap.size ≤ k_)) ∧ k_ ≠ g489)) (by exact HO493.out) (fun k_ hk_ => (⟨hk_, hk_.2⟩ : _ ∧ k_ ≠ g489))) hk (fun _ h => h.2)) (fun _ h => h.1)); replace HI489 := zA (hi); replace HB := zA (hb); (try clear hb); (try clear hb2); (try clear hk); (try clear hi)) | ((with_reducible refine gate_callee (f := 67) rfl ?_); refine goesL_ (some 28) rfl rfl Try.func67 (by kernel_rfl) rfl #[.pointer (some ⟨g489, 0, none⟩), .int .i64 16] rfl zM ?_; (with_reducible refine (spec_l01Next.calls g489 t486 t496 t497 16 t498 t499 t500 w _ ?side1 ?side2 A7.out).mono ?_); (case side1 => repeat ((with_reducible exact HI489.out))); (case side2 => repeat ((with_reducible exact HB.out))); rintro e w12 ⟨rfl, hi, hb, hk⟩; refine ⟨_, rfl, ?_⟩; replace HO493 := zA (Kd.N_mono (Kd.N_keep (Kd.N_mono (ok := fun k_ => (((w.heap.size ≤ k_)) ∧ k_ ≠ g489)) (by exact HO493.out) (fun k_ hk_ => (⟨hk_, hk_.2⟩ : _ ∧ k_ ≠ g489))) hk (fun _ h => h.2)) (fun _ h => h.1)); replace HI489 := zA (hi); replace HB := zA (hb); (try clear hb); (try clear hb2); (try clear hk); (try clear hi)) | ((with_reducible refine gate_callee (f := 67) rfl ?_); refine goesL_ (some 31) rfl rfl Try.func67 (by kernel_rfl) rfl #[.pointer (some ⟨g489, 0, none⟩), .int .i64 (wrap64 ((ji4) + (wrap64 (Int.tdiv t498 15))))] rfl (by (try simp only [List.map_toArray, List.map_cons, List.map_nil]); rfl) ?_; (with_reducible refine (spec_l01Next.calls g489 t486 t499 t500 (wrap64 ((ji4) + (wrap64 (Int.tdiv t498 15)))) t501 t502 t503 w _ ?side1 ?side2 A8.out).mono ?_); (case side1 => repeat ((with_reducible exact HI489.out))); (case side2 => repeat ((with_reducible exact HB.out))); rintro e w13 ⟨rfl, hi, hb, hk⟩; refine ⟨_, rfl, ?_⟩; replace HO493 := zA (Kd.N_mono (Kd.N_keep (Kd.N_mono (ok := fun k_ => (((w.heap.size ≤ k_)) ∧ k_ ≠ g489)) (by exact HO493.out) (fun k_ hk_ => (⟨hk_, hk_.2⟩ : _ ∧ k_ ≠ g489))) hk (fun _ h => h.2)) (fun _ h => h.1)); replace HI489 := zA (hi); replace HB := zA (hb); (try clear hb); (try clear hb2); (try clear hk); (try clear hi)))
 refine bodyPost_ret (results_list (rs := [.tmp 2, .tmp 3, .tmp 4, .tmp 5]) rfl (by simp) (.tmp (.tmp (.tmp (.tmp .nil))))) rfl ?_
 exact ⟨_, by rfl, by exact Kd.N_mono HO493.out (fun _ hk => hk.1), by repeat ((with_reducible exact HB.out))⟩


/-! ### impl_TableCommutator: function 22 -/
def impl_TableCommutator.f (k : Nat) (a0 : Int) (l1 : List (List (List Int))) (a2 : Int) (a3 : Int) : Option ((List (List Int)) × Int) := (impl_AreTables.f a0 l1).bind fun t504 => (if t504 = true then ((impl_within.f a2 0 (wrap64 (a0 - 1))).bind fun t505 => (if t505 = true then ((impl_within.f a3 0 (wrap64 (a0 - 1))).bind fun t506 => (if t506 = true then (if 0 ≤ a2 then (if a2 < (l1.length : Int) then (if 0 ≤ a3 then (if a3 < (l1.length : Int) then ((impl_turn.f k (rd_L4 l1 a2) (rd_L4 l1 a3)).bind fun t509 => (some (t509, 0))) else (none)) else (none)) else (none)) else (none)) else (some (([] : List (List Int)), 2)))) else (some (([] : List (List Int)), 2)))) else (some (([] : List (List Int)), 1)))
theorem impl_TableCommutator.mono : ∀ a0 a1 a2 a3 k, LeO (impl_TableCommutator.f k a0 a1 a2 a3) (impl_TableCommutator.f (k + 1) a0 a1 a2 a3) := by
 intro a0 a1 a2 a3 k
 unfold impl_TableCommutator.f
 repeat' first
  | (with_reducible exact impl_turn.mono _ _ _)
  | (with_reducible exact LeO.refl _)
  | (with_reducible exact LeO.none _)
  | (with_reducible refine LeO.ite ?_ ?_)
  | (with_reducible refine LeO.bind ?_ (fun _ => ?_))
def impl_TableCommutator.T5 : Bool × List (List Nat × List Nat) := (true, [([], []), ([], []), ([0, 1], [0, 1]), ([2], [2]), ([], []), ([], []), ([4, 5], [4, 5]), ([6], [6]), ([3, 7], [3, 7]), ([8, 8, 0, 1, 2, 3, 4, 5, 6, 7, 8], [8]), ([9, 0, 1, 2, 3, 4, 5, 6, 7, 8, 9], [])])
def impl_TableCommutator.B5 : List Nat := [0, 0, 3, 7, 0, 0, 48, 112, 255, 511, 1023]
theorem impl_TableCommutator.tab5 : rtab .any (opsOf Try.f22 5) = impl_TableCommutator.T5 := by kernel_rfl
theorem impl_TableCommutator.bits5 : waitsOk impl_TableCommutator.T5.2 impl_TableCommutator.B5 = true := by kernel_rfl
theorem impl_TableCommutator.callsS (k : Nat) (a0 : Int) (A1 : Option Addr) (c1 : Nat) (l1 : List (List (List Int))) (a2 : Int) (a3 : Int) (r1 : List (List Int)) (r2 : Int) (w : World) (hr1 : Kd.C (Kd.slice 45 (Kd.slice 2 (Kd.int .i64))) w A1 l1.length l1) (hc1 : l1.length ≤ c1) (h : impl_TableCommutator.f k a0 l1 a2 a3 = some (r1, r2)) :
 Calls Try.prog 22 #[.int .i64 a0, .slice A1 l1.length c1, .int .i64 a2, .int .i64 a3] w fun e w' => ∃ v0_ : Value, e = .returned (.tuple #[v0_, .int .i64 r2]) ∧ Kd.S (Kd.slice 2 (Kd.int .i64)) 45 w' w.heap.size (fun k_ => (w.heap.size ≤ k_)) v0_ r1 ∧ Below w.heap.size w w' := by
 have HR1 := zA hr1
 have HC1 := zA hc1
 clear hr1 hc1
 have HB := zA (Below.refl w.heap.size w)
 have H : ((impl_AreTables.f a0 l1).bind fun t504 => (if t504 = true then ((impl_within.f a2 0 (wrap64 (a0 - 1))).bind fun t505 => (if t505 = true then ((impl_within.f a3 0 (wrap64 (a0 - 1))).bind fun t506 => (if t506 = true then (if 0 ≤ a2 then (if a2 < (l1.length : Int) then (if 0 ≤ a3 then (if a3 < (l1.length : Int) then ((impl_turn.f k (rd_L4 l1 a2) (rd_L4 l1 a3)).bind fun t509 => (some (t509, 0))) else (none)) else (none)) else (none)) else (none)) else (some (([] : List (List Int)), 2)))) else (some (([] : List (List Int)), 2)))) else (some (([] : List (List Int)), 1)))) = some (r1, r2) := h
 clear h
 replace H := Option.bind_eq_some_iff.mp H
 obtain ⟨t504, A50, H⟩ := H
 replace H : (if t504 = true then ((impl_within.f a2 0 (wrap64 (a0 - 1))).bind fun t505 => (if t505 = true then ((impl_within.f a3 0 (wrap64 (a0 - 1))).bind fun t506 => (if t506 = true then (if 0 ≤ a2 then (if a2 < (l1.length : Int) then (if 0 ≤ a3 then (if a3 < (l1.length : Int) then ((impl_turn.f k (rd_L4 l1 a2) (rd_L4 l1 a3)).bind fun t509 => (some (t509, 0))) else (none)) else (none)) else (none)) else (none)) else (some (([] : List (List Int)), 2)))) else (some (([] : List (List Int)), 2)))) else (some (([] : List (List Int)), 1))) = some (r1, r2) := H
 have A5 := zA A50
 clear A50
 by_cases c6 : t504 = true
 ·subst c6
  have H1 : ((impl_within.f a2 0 (wrap64 (a0 - 1))).bind fun t505 => (if t505 = true then ((impl_within.f a3 0 (wrap64 (a0 - 1))).bind fun t506 => (if t506 = true then (if 0 ≤ a2 then (if a2 < (l1.length : Int) then (if 0 ≤ a3 then (if a3 < (l1.length : Int) then ((impl_turn.f k (rd_L4 l1 a2) (rd_L4 l1 a3)).bind fun t509 => (some (t509, 0))) else (none)) else (none)) else (none)) else (none)) else (some (([] : List (List Int)), 2)))) else (some (([] : List (List Int)), 2)))) = some (r1, r2) := by rw [if_pos rfl] at H; exact H
  clear H
  have H := H1
  clear H1
  replace H := Option.bind_eq_some_iff.mp H
  obtain ⟨t505, A70, H⟩ := H
  replace H : (if t505 = true then ((impl_within.f a3 0 (wrap64 (a0 - 1))).bind fun t506 => (if t506 = true then (if 0 ≤ a2 then (if a2 < (l1.length : Int) then (if 0 ≤ a3 then (if a3 < (l1.length : Int) then ((impl_turn.f k (rd_L4 l1 a2) (rd_L4 l1 a3)).bind fun t509 => (some (t509, 0))) else (none)) else (none)) else (none)) else (none)) else (some (([] : List (List Int)), 2)))) else (some (([] : List (List Int)), 2))) = some (r1, r2) := H
  have A7 := zA A70
  clear A70
  by_cases c8 : t505 = true
  ·subst c8
   have H1 : ((impl_within.f a3 0 (wrap64 (a0 - 1))).bind fun t506 => (if t506 = true then (if 0 ≤ a2 then (if a2 < (l1.length : Int) then (if 0 ≤ a3 then (if a3 < (l1.length : Int) then ((impl_turn.f k (rd_L4 l1 a2) (rd_L4 l1 a3)).bind fun t509 => (some (t509, 0))) else (none)) else (none)) else (none)) else (none)) else (some (([] : List (List Int)), 2)))) = some (r1, r2) := by rw [if_pos rfl] at H; exact H
   clear H
   have H := H1
   clear H1
   replace H := Option.bind_eq_some_iff.mp H
   obtain ⟨t506, A90, H⟩ := H
   replace H : (if t506 = true then (if 0 ≤ a2 then (if a2 < (l1.length : Int) then (if 0 ≤ a3 then (if a3 < (l1.length : Int) then ((impl_turn.f k (rd_L4 l1 a2) (rd_L4 l1 a3)).bind fun t509 => (some (t509, 0))) else (none)) else (none)) else (none)) else (none)) else (some (([] : List (List Int)), 2))) = some (r1, r2) := H
   have A9 := zA A90
   clear A90
   by_cases c10 : t506 = true
   ·subst c10
    have H1 : (if 0 ≤ a2 then (if a2 < (l1.length : Int) then (if 0 ≤ a3 then (if a3 < (l1.length : Int) then ((impl_turn.f k (rd_L4 l1 a2) (rd_L4 l1 a3)).bind fun t509 => (some (t509, 0))) else (none)) else (none)) else (none)) else (none)) = some (r1, r2) := by rw [if_pos rfl] at H; exact H
    clear H
    have H := H1
    clear H1
    by_cases c11 : 0 ≤ a2
    ·rw [if_pos c11] at H
     have c11b0 : decide (0 ≤ a2) = true := decide_eq_true c11
     clear c11
     by_cases c12 : a2 < (l1.length : Int)
     ·rw [if_pos c12] at H
      have c12b0 : decide (a2 < (l1.length : Int)) = true := decide_eq_true c12
      clear c12
      by_cases c13 : 0 ≤ a3
      ·rw [if_pos c13] at H
       have c13b0 : decide (0 ≤ a3) = true := decide_eq_true c13
       clear c13
       by_cases c14 : a3 < (l1.length : Int)
       ·rw [if_pos c14] at H
        have c14b0 : decide (a3 < (l1.length : Int)) = true := decide_eq_true c14
        clear c14
        replace H := Option.bind_eq_some_iff.mp H
        obtain ⟨t509, A150, H⟩ := H
        replace H : (some (t509, 0)) = some (r1, r2) := H
        have A15 := zA A150
        clear A150
        simp only [Option.some.injEq, Prod.mk.injEq] at H
        obtain ⟨rfl, rfl⟩ := H
        go_enter Try.func22, Try.ntmps22
        try go_wp2_with (first | ((with_reducible refine gate_callee (f := 11) rfl ?_); refine goesL_ (some 12) rfl rfl Try.func11 (by kernel_rfl) rfl #[.int .i64 a0, .slice A1 l1.length c1] rfl zM ?_; (with_reducible refine (impl_AreTables.calls a0 _ _ l1 true _ ?side1 ?side2 A5.out).mono ?_); (case side1 => repeat (exact HR1.out)); (case side2 => exact HC1.out); rintro e w16 ⟨rfl, hb⟩; refine ⟨_, rfl, ?_⟩; replace HB := zA (below_step zB hb); (try clear hb); (try clear hb2); (try clear hk); (try clear hi)) | ((with_reducible refine gate_callee (f := 52) rfl ?_); refine goesL_ (some 17) rfl rfl Try.func52 (by kernel_rfl) rfl #[.int .i64 a2, .int .i64 0, .int .i64 (wrap64 (a0 - 1))] rfl zM ?_; (with_reducible refine (impl_within.calls a2 0 (wrap64 (a0 - 1)) true _ A7.out).mono ?_); rintro e w' ⟨rfl, ⟨nd, rfl⟩⟩; refine ⟨_, rfl, ?_⟩) | (go_at_call 52; (with_reducible refine (impl_within.calls a3 0 (wrap64 (a0 - 1)) true _ A9.out).mono ?_); rintro e w' ⟨rfl, ⟨nd, rfl⟩⟩))
        (try (rw [drewN_self w16]; generalize hq_ : World.drewN w16 _ = w16; replace HB : Aside0 (Below w.heap.size w w16) := ⟨by rw [← hq_]; exact zB⟩; clear hq_))
        replace HB := zA (below_drew1 HB.out)
        have p507 : 0 ≤ (a2 : Int) := zD
        have q507 : a2 < (l1.length : Int) := zD
        obtain ⟨ad507, A507_0, c507_0, e507, hx507_0, hl507_0, hi507_0⟩ := at_L4 HR1.out a2 p507 q507
        have hw507_0 := hx507_0
        cases e507
        replace hx507_0 := zH HB hx507_0
        have HR507_0 := zA hi507_0
        have HC507_0 := zA hl507_0
        clear hi507_0 hl507_0
        replace p507 := eq_true p507
        replace q507 := eq_true q507
        have p508 : 0 ≤ (a3 : Int) := zD
        have q508 : a3 < (l1.length : Int) := zD
        obtain ⟨ad508, A508_0, c508_0, e508, hx508_0, hl508_0, hi508_0⟩ := at_L4 HR1.out a3 p508 q508
        have hw508_0 := hx508_0
        obtain rfl : ad507 = ad508 := (by injection e508)
        replace hx508_0 := zH HB hx508_0
        have HR508_0 := zA hi508_0
        have HC508_0 := zA hl508_0
        clear hi508_0 hl508_0
        replace p508 := eq_true p508
        replace q508 := eq_true q508
        refine start_ (n := 11) (S := fun w' => w'.cell? (ad507.add (a2).toNat) = some (.slice A507_0 (rd_L4 l1 a2).length c507_0) ∧ w'.cell? (ad507.add (a3).toNat) = some (.slice A508_0 (rd_L4 l1 a3).length c508_0)) (ds := []) #[false, false, false, false, false, false, false, false, false, false, false] (by kernel_rfl) rfl rfl ⟨(zH HB hw507_0 :), (zH HB hw508_0 :)⟩ (fun hHeld => ?_); refine with_tabW impl_TableCommutator.tab5 impl_TableCommutator.bits5 (fun HT_ HW_ => ?_)
        generalize w16.drew = w17 at HB HR507_0 HR508_0 hx507_0 hx508_0 hHeld ⊢
        refine zP 0 (N := some 26) (h := ?_)
        refine zP 1 (N := some 27) (h := ?_)
        refine zP 2 (N := some 28) (h := ?_)
        refine zP 4 (N := some 30) (h := ?_)
        refine zP 5 (N := some 31) (h := ?_)
        refine zP 6 (N := some 32) (h := ?_)
        refine zT 3 hHeld (N := some 29) (h := ?_)
        refine zT 7 hHeld (N := some 33) (h := ?_)
        refine one_ (i := 8) (N := some 34) #[true, true, true, true, true, true, true, true, true, false, false] rfl rfl (one_of HT_.out (by kernel_rfl)) (by decide) (fun K hK => ?_)
        refine goes_ Try.func63 (by kernel_rfl) rfl #[.slice A507_0 (rd_L4 l1 a2).length c507_0, .slice A508_0 (rd_L4 l1 a3).length c508_0] (by rfl) rfl rfl zM ?_
        with_reducible refine (impl_turn.callsS k _ _ (rd_L4 l1 a2) _ _ (rd_L4 l1 a3) t509 _ ?side1 ?side2 ?side3 ?side4 A15.out).mono ?_
        (case side1 => repeat (exact (Kd.C_below HR507_0.out HB.out)))
        (case side2 => exact HC507_0.out)
        (case side3 => repeat (exact (Kd.C_below HR508_0.out HB.out)))
        (case side4 => exact HC508_0.out)
        rintro e w18 ⟨v510, rfl, ho0, hb⟩
        refine ⟨_, rfl, ?_⟩
        have HO511 := zA (Kd.S_lower (Kd.S_mono (ok' := fun k_ => (w.heap.size ≤ k_)) ho0 (fun k_ hk_ => (Nat.le_trans (below_size zB) hk_))) (below_size zB))
        replace HB := zA (below_step zB hb)
        (try clear hb)
        (try clear hb2)
        (try clear hk)
        (try clear hi)
        (try clear ho0)
        refine hK.out _ _ ⟨(zH HB hw507_0 :), (zH HB hw508_0 :)⟩ (fun hHeld => ?_)
        clear hK K
        refine norm_ (a' := ?_) ?_ ?_
        rotate_left
        ·show Act.put _ (some 34) _ = _
         simp only [Act.put, List.setIfInBounds_toArray, List.set, i64_w, i32_w]
         rfl
        refine zP 9 (N := some 8) (h := ?_)
        refine zP 10 (N := some 9) (h := ?_)
        refine done_ (done_of HT_.out (by kernel_rfl)) ?_
        try go_wp2
        go_ret2
        exact ⟨_, by rfl, zS, zB⟩
       ·rw [if_neg c14] at H
        exact absurd H (by simp)
      ·rw [if_neg c13] at H
       exact absurd H (by simp)
     ·rw [if_neg c12] at H
      exact absurd H (by simp)
    ·rw [if_neg c11] at H
     exact absurd H (by simp)
   ·replace c10 := Bool.eq_false_iff.mpr c10
    subst c10
    have H1 : (some (([] : List (List Int)), 2)) = some (r1, r2) := by rw [if_neg (show ¬ (false = true) by decide)] at H; exact H
    clear H
    have H := H1
    clear H1
    simp only [Option.some.injEq, Prod.mk.injEq] at H
    obtain ⟨rfl, rfl⟩ := H
    go_enter Try.func22, Try.ntmps22
    go_wp2_with (first | ((with_reducible refine gate_callee (f := 11) rfl ?_); refine goesL_ (some 12) rfl rfl Try.func11 (by kernel_rfl) rfl #[.int .i64 a0, .slice A1 l1.length c1] rfl zM ?_; (with_reducible refine (impl_AreTables.calls a0 _ _ l1 true _ ?side1 ?side2 A5.out).mono ?_); (case side1 => repeat (exact HR1.out)); (case side2 => exact HC1.out); rintro e w19 ⟨rfl, hb⟩; refine ⟨_, rfl, ?_⟩; replace HB := zA (below_step zB hb); (try clear hb); (try clear hb2); (try clear hk); (try clear hi)) | ((with_reducible refine gate_callee (f := 52) rfl ?_); refine goesL_ (some 17) rfl rfl Try.func52 (by kernel_rfl) rfl #[.int .i64 a2, .int .i64 0, .int .i64 (wrap64 (a0 - 1))] rfl zM ?_; (with_reducible refine (impl_within.calls a2 0 (wrap64 (a0 - 1)) true _ A7.out).mono ?_); rintro e w' ⟨rfl, ⟨nd, rfl⟩⟩; refine ⟨_, rfl, ?_⟩) | (go_at_call 52; (with_reducible refine (impl_within.calls a3 0 (wrap64 (a0 - 1)) false _ A9.out).mono ?_); rintro e w' ⟨rfl, ⟨nd, rfl⟩⟩))
    go_ret2
    exact ⟨_, by rfl, by exact Kd.S_nil _ _ _ _ _, zB⟩
  ·replace c8 := Bool.eq_false_iff.mpr c8
   subst c8
   have H1 : (some (([] : List (List Int)), 2)) = some (r1, r2) := by rw [if_neg (show ¬ (false = true) by decide)] at H; exact H
   clear H
   have H := H1
   clear H1
   simp only [Option.some.injEq, Prod.mk.injEq] at H
   obtain ⟨rfl, rfl⟩ := H
   go_enter Try.func22, Try.ntmps22
   go_wp2_with (first | ((with_reducible refine gate_callee (f := 11) rfl ?_); refine goesL_ (some 12) rfl rfl Try.func11 (by kernel_rfl) rfl #[.int .i64 a0, .slice A1 l1.length c1] rfl zM ?_; (with_reducible refine (impl_AreTables.calls a0 _ _ l1 true _ ?side1 ?side2 A5.out).mono ?_); (case side1 => repeat (exact HR1.out)); (case side2 => exact HC1.out); rintro e w20 ⟨rfl, hb⟩; refine ⟨_, rfl, ?_⟩; replace HB := zA (below_step zB hb); (try clear hb); (try clear hb2); (try clear hk); (try clear hi)) | ((with_reducible refine gate_callee (f := 52) rfl ?_); refine goesL_ (some 17) rfl rfl Try.func52 (by kernel_rfl) rfl #[.int .i64 a2, .int .i64 0, .int .i64 (wrap64 (a0 - 1))] rfl zM ?_; (with_reducible refine (impl_within.calls a2 0 (wrap64 (a0 - 1)) false _ A7.out).mono ?_); rintro e w' ⟨rfl, ⟨nd, rfl⟩⟩; refine ⟨_, rfl, ?_⟩))
   go_ret2
   exact ⟨_, by rfl, by exact Kd.S_nil _ _ _ _ _, zB⟩
 ·replace c6 := Bool.eq_false_iff.mpr c6
  subst c6
  have H1 : (some (([] : List (List Int)), 1)) = some (r1, r2) := by rw [if_neg (show ¬ (false = true) by decide)] at H; exact H
  clear H
  have H := H1
  clear H1
  simp only [Option.some.injEq, Prod.mk.injEq] at H
  obtain ⟨rfl, rfl⟩ := H
  go_enter Try.func22, Try.ntmps22
  go_wp2_with (first | ((with_reducible refine gate_callee (f := 11) rfl ?_); refine goesL_ (some 12) rfl rfl Try.func11 (by kernel_rfl) rfl #[.int .i64 a0, .slice A1 l1.length c1] rfl zM ?_; (with_reducible refine (impl_AreTables.calls a0 _ _ l1 false _ ?side1 ?side2 A5.out).mono ?_); (case side1 => repeat (exact HR1.out)); (case side2 => exact HC1.out); rintro e w21 ⟨rfl, hb⟩; refine ⟨_, rfl, ?_⟩; replace HB := zA (below_step zB hb); (try clear hb); (try clear hb2); (try clear hk); (try clear hi)))
  go_ret2
  exact ⟨_, by rfl, by exact Kd.S_nil _ _ _ _ _, zB⟩
set_option maxHeartbeats 1000000 in
theorem impl_TableCommutator.calls (k : Nat) (a0 : Int) (A1 : Option Addr) (c1 : Nat) (l1 : List (List (List Int))) (a2 : Int) (a3 : Int) (r1 : List (List Int)) (r2 : Int) (w : World) (hr1 : Kd.C (Kd.slice 45 (Kd.slice 2 (Kd.int .i64))) w A1 l1.length l1) (hc1 : l1.length ≤ c1) (h : impl_TableCommutator.f k a0 l1 a2 a3 = some (r1, r2)) :
 Calls Try.prog 22 #[.int .i64 a0, .slice A1 l1.length c1, .int .i64 a2, .int .i64 a3] w fun e w' => ∃ v0_ : Value, e = .returned (.tuple #[v0_, .int .i64 r2]) ∧ Kd.N (Kd.slice 2 (Kd.int .i64)) 45 w' w.heap.size (fun k_ => (w.heap.size ≤ k_)) v0_ r1 ∧ Below w.heap.size w w' := by
 refine (impl_TableCommutator.callsS k a0 A1 c1 l1 a2 a3 r1 r2 w hr1 hc1 h).mono ?_
 rintro e w' ⟨v0_, he, hS, hB⟩
 exact ⟨v0_, he, Kd.S_N hS, hB⟩


/-! ### spec_TableCommutator: function 23 -/
def spec_TableCommutator.f (k : Nat) (a0 : Int) (l1 : List (List (List Int))) (a2 : Int) (a3 : Int) : Option ((List (List Int)) × Int) := (spec_l08Are.f k a0 l1).bind fun t512 => (if t512 = true then ((spec_l01In.f a2 0 (wrap64 (a0 - 1))).bind fun t513 => (if t513 = true then ((spec_l01In.f a3 0 (wrap64 (a0 - 1))).bind fun t514 => (if t514 = true then (if 0 ≤ a2 then (if a2 < (l1.length : Int) then (if 0 ≤ a3 then (if a3 < (l1.length : Int) then ((spec_l08Commutator.f k (rd_L4 l1 a2) (rd_L4 l1 a3)).bind fun t517 => (some (t517, 0))) else (none)) else (none)) else (none)) else (none)) else (some (([] : List (List Int)), 2)))) else (some (([] : List (List Int)), 2)))) else (some (([] : List (List Int)), 1)))
theorem spec_TableCommutator.mono : ∀ a0 a1 a2 a3 k, LeO (spec_TableCommutator.f k a0 a1 a2 a3) (spec_TableCommutator.f (k + 1) a0 a1 a2 a3) := by
 intro a0 a1 a2 a3 k
 unfold spec_TableCommutator.f
 repeat' first
  | (with_reducible exact spec_l08Are.mono _ _ _)
  | (with_reducible exact spec_l08Commutator.mono _ _ _)
  | (with_reducible exact LeO.refl _)
  | (with_reducible exact LeO.none _)
  | (with_reducible refine LeO.ite ?_ ?_)
  | (with_reducible refine LeO.bind ?_ (fun _ => ?_))
def spec_TableCommutator.T5 : Bool × List (List Nat × List Nat) := (true, [([], []), ([], []), ([0, 1], [0, 1]), ([2], [2]), ([], []), ([], []), ([4, 5], [4, 5]), ([6], [6]), ([3, 7], [3, 7]), ([8, 8, 0, 1, 2, 3, 4, 5, 6, 7, 8], [8]), ([9, 0, 1, 2, 3, 4, 5, 6, 7, 8, 9], [])])
def spec_TableCommutator.B5 : List Nat := [0, 0, 3, 7, 0, 0, 48, 112, 255, 511, 1023]
theorem spec_TableCommutator.tab5 : rtab .any (opsOf Try.f23 5) = spec_TableCommutator.T5 := by kernel_rfl
theorem spec_TableCommutator.bits5 : waitsOk spec_TableCommutator.T5.2 spec_TableCommutator.B5 = true := by kernel_rfl
theorem spec_TableCommutator.calls (k : Nat) (a0 : Int) (A1 : Option Addr) (c1 : Nat) (l1 : List (List (List Int))) (a2 : Int) (a3 : Int) (r1 : List (List Int)) (r2 : Int) (w : World) (hr1 : Kd.C (Kd.slice 45 (Kd.slice 2 (Kd.int .i64))) w A1 l1.length l1) (hc1 : l1.length ≤ c1) (h : spec_TableCommutator.f k a0 l1 a2 a3 = some (r1, r2)) :
 Calls Try.prog 23 #[.int .i64 a0, .slice A1 l1.length c1, .int .i64 a2, .int .i64 a3] w fun e w' => ∃ v0_ : Value, e = .returned (.tuple #[v0_, .int .i64 r2]) ∧ Kd.S (Kd.slice 2 (Kd.int .i64)) 45 w' w.heap.size (fun _ => True) v0_ r1 ∧ Below w.heap.size w w' := by
 have HR1 := zA hr1
 have HC1 := zA hc1
 clear hr1 hc1
 have HB := zA (Below.refl w.heap.size w)
 have H : ((spec_l08Are.f k a0 l1).bind fun t512 => (if t512 = true then ((spec_l01In.f a2 0 (wrap64 (a0 - 1))).bind fun t513 => (if t513 = true then ((spec_l01In.f a3 0 (wrap64 (a0 - 1))).bind fun t514 => (if t514 = true then (if 0 ≤ a2 then (if a2 < (l1.length : Int) then (if 0 ≤ a3 then (if a3 < (l1.length : Int) then ((spec_l08Commutator.f k (rd_L4 l1 a2) (rd_L4 l1 a3)).bind fun t517 => (some (t517, 0))) else (none)) else (none)) else (none)) else (none)) else (some (([] : List (List Int)), 2)))) else (some (([] : List (List Int)), 2)))) else (some (([] : List (List Int)), 1)))) = some (r1, r2) := h
 clear h
 replace H := Option.bind_eq_some_iff.mp H
 obtain ⟨t512, A50, H⟩ := H
 replace H : (if t512 = true then ((spec_l01In.f a2 0 (wrap64 (a0 - 1))).bind fun t513 => (if t513 = true then ((spec_l01In.f a3 0 (wrap64 (a0 - 1))).bind fun t514 => (if t514 = true then (if 0 ≤ a2 then (if a2 < (l1.length : Int) then (if 0 ≤ a3 then (if a3 < (l1.length : Int) then ((spec_l08Commutator.f k (rd_L4 l1 a2) (rd_L4 l1 a3)).bind fun t517 => (some (t517, 0))) else (none)) else (none)) else (none)) else (none)) else (some (([] : List (List Int)), 2)))) else (some (([] : List (List Int)), 2)))) else (some (([] : List (List Int)), 1))) = some (r1, r2) := H
 have A5 := zA A50
 clear A50
 by_cases c6 : t512 = true
 ·subst c6
  have H1 : ((spec_l01In.f a2 0 (wrap64 (a0 - 1))).bind fun t513 => (if t513 = true then ((spec_l01In.f a3 0 (wrap64 (a0 - 1))).bind fun t514 => (if t514 = true then (if 0 ≤ a2 then (if a2 < (l1.length : Int) then (if 0 ≤ a3 then (if a3 < (l1.length : Int) then ((spec_l08Commutator.f k (rd_L4 l1 a2) (rd_L4 l1 a3)).bind fun t517 => (some (t517, 0))) else (none)) else (none)) else (none)) else (none)) else (some (([] : List (List Int)), 2)))) else (some (([] : List (List Int)), 2)))) = some (r1, r2) := by rw [if_pos rfl] at H; exact H
  clear H
  have H := H1
  clear H1
  replace H := Option.bind_eq_some_iff.mp H
  obtain ⟨t513, A70, H⟩ := H
  replace H : (if t513 = true then ((spec_l01In.f a3 0 (wrap64 (a0 - 1))).bind fun t514 => (if t514 = true then (if 0 ≤ a2 then (if a2 < (l1.length : Int) then (if 0 ≤ a3 then (if a3 < (l1.length : Int) then ((spec_l08Commutator.f k (rd_L4 l1 a2) (rd_L4 l1 a3)).bind fun t517 => (some (t517, 0))) else (none)) else (none)) else (none)) else (none)) else (some (([] : List (List Int)), 2)))) else (some (([] : List (List Int)), 2))) = some (r1, r2) := H
  have A7 := zA A70
  clear A70
  by_cases c8 : t513 = true
  ·subst c8
   have H1 : ((spec_l01In.f a3 0 (wrap64 (a0 - 1))).bind fun t514 => (if t514 = true then (if 0 ≤ a2 then (if a2 < (l1.length : Int) then (if 0 ≤ a3 then (if a3 < (l1.length : Int) then ((spec_l08Commutator.f k (rd_L4 l1 a2) (rd_L4 l1 a3)).bind fun t517 => (some (t517, 0))) else (none)) else (none)) else (none)) else (none)) else (some (([] : List (List Int)), 2)))) = some (r1, r2) := by rw [if_pos rfl] at H; exact H
   clear H
   have H := H1
   clear H1
   replace H := Option.bind_eq_some_iff.mp H
   obtain ⟨t514, A90, H⟩ := H
   replace H : (if t514 = true then (if 0 ≤ a2 then (if a2 < (l1.length : Int) then (if 0 ≤ a3 then (if a3 < (l1.length : Int) then ((spec_l08Commutator.f k (rd_L4 l1 a2) (rd_L4 l1 a3)).bind fun t517 => (some (t517, 0))) else (none)) else (none)) else (none)) else (none)) else (some (([] : List (List Int)), 2))) = some (r1, r2) := H
   have A9 := zA A90
   clear A90
   by_cases c10 : t514 = true
   ·subst c10
    have H1 : (if 0 ≤ a2 then (if a2 < (l1.length : Int) then (if 0 ≤ a3 then (if a3 < (l1.length : Int) then ((spec_l08Commutator.f k (rd_L4 l1 a2) (rd_L4 l1 a3)).bind fun t517 => (some (t517, 0))) else (none)) else (none)) else (none)) else (none)) = some (r1, r2) := by rw [if_pos rfl] at H; exact H
    clear H
    have H := H1
    clear H1
    by_cases c11 : 0 ≤ a2
    ·rw [if_pos c11] at H
     have c11b0 : decide (0 ≤ a2) = true := decide_eq_true c11
     clear c11
     by_cases c12 : a2 < (l1.length : Int)
     ·rw [if_pos c12] at H
      have c12b0 : decide (a2 < (l1.length : Int)) = true := decide_eq_true c12
      clear c12
      by_cases c13 : 0 ≤ a3
      ·rw [if_pos c13] at H
       have c13b0 : decide (0 ≤ a3) = true := decide_eq_true c13
       clear c13
       by_cases c14 : a3 < (l1.length : Int)
       ·rw [if_pos c14] at H
        have c14b0 : decide (a3 < (l1.length : Int)) = true := decide_eq_true c14
        clear c14
        replace H := Option.bind_eq_some_iff.mp H
        obtain ⟨t517, A150, H⟩ := H
        replace H : (some (t517, 0)) = some (r1, r2) := H
        have A15 := zA A150
        clear A150
        simp only [Option.some.injEq, Prod.mk.injEq] at H
        obtain ⟨rfl, rfl⟩ := H
        go_enter Try.func23, Try.ntmps23
        try go_wp2_with (first | ((with_reducible refine gate_callee (f := 48) rfl ?_); refine goesL_ (some 13) rfl rfl Try.func48 (by kernel_rfl) rfl #[.int .i64 a0, .slice A1 l1.length c1] rfl zM ?_; (with_reducible refine (spec_l08Are.calls k a0 _ _ l1 true _ ?side1 ?side2 A5.out).mono ?_); (case side1 => repeat (exact HR1.out)); (case side2 => exact HC1.out); rintro e w' ⟨rfl, ⟨nd, rfl⟩⟩; refine ⟨_, rfl, ?_⟩) | ((with_reducible refine gate_callee (f := 61) rfl ?_); refine goesL_ (some 19) rfl rfl Try.func61 (by kernel_rfl) rfl #[.int .i64 a2, .int .i64 0, .int .i64 (wrap64 (a0 - 1))] rfl zM ?_; (with_reducible refine (spec_l01In.calls a2 0 (wrap64 (a0 - 1)) true _ A7.out).mono ?_); rintro e w' ⟨rfl, ⟨nd, rfl⟩⟩; refine ⟨_, rfl, ?_⟩) | (go_at_call 61; (with_reducible refine (spec_l01In.calls a3 0 (wrap64 (a0 - 1)) true _ A9.out).mono ?_); rintro e w' ⟨rfl, ⟨nd, rfl⟩⟩))
        replace HB := zA (below_drew1 HB.out)
        have p515 : 0 ≤ (a2 : Int) := zD
        have q515 : a2 < (l1.length : Int) := zD
        obtain ⟨ad515, A515_0, c515_0, e515, hx515_0, hl515_0, hi515_0⟩ := at_L4 HR1.out a2 p515 q515
        have hw515_0 := hx515_0
        cases e515
        replace hx515_0 := zH HB hx515_0
        have HR515_0 := zA hi515_0
        have HC515_0 := zA hl515_0
        clear hi515_0 hl515_0
        replace p515 := eq_true p515
        replace q515 := eq_true q515
        have p516 : 0 ≤ (a3 : Int) := zD
        have q516 : a3 < (l1.length : Int) := zD
        obtain ⟨ad516, A516_0, c516_0, e516, hx516_0, hl516_0, hi516_0⟩ := at_L4 HR1.out a3 p516 q516
        have hw516_0 := hx516_0
        obtain rfl : ad515 = ad516 := (by injection e516)
        replace hx516_0 := zH HB hx516_0
        have HR516_0 := zA hi516_0
        have HC516_0 := zA hl516_0
        clear hi516_0 hl516_0
        replace p516 := eq_true p516
        replace q516 := eq_true q516
        refine start_ (n := 11) (S := fun w' => w'.cell? (ad515.add (a2).toNat) = some (.slice A515_0 (rd_L4 l1 a2).length c515_0) ∧ w'.cell? (ad515.add (a3).toNat) = some (.slice A516_0 (rd_L4 l1 a3).length c516_0)) (ds := []) #[false, false, false, false, false, false, false, false, false, false, false] (by kernel_rfl) rfl rfl ⟨(zH HB hw515_0 :), (zH HB hw516_0 :)⟩ (fun hHeld => ?_); refine with_tabW spec_TableCommutator.tab5 spec_TableCommutator.bits5 (fun HT_ HW_ => ?_)
        generalize w.drew = w16 at HB HR515_0 HR516_0 hx515_0 hx516_0 hHeld ⊢
        refine zP 0 (N := some 28) (h := ?_)
        refine zP 1 (N := some 29) (h := ?_)
        refine zP 2 (N := some 30) (h := ?_)
        refine zP 4 (N := some 32) (h := ?_)
        refine zP 5 (N := some 33) (h := ?_)
        refine zP 6 (N := some 34) (h := ?_)
        refine zT 3 hHeld (N := some 31) (h := ?_)
        refine zT 7 hHeld (N := some 35) (h := ?_)
        refine one_ (i := 8) (N := some 36) #[true, true, true, true, true, true, true, true, true, false, false] rfl rfl (one_of HT_.out (by kernel_rfl)) (by decide) (fun K hK => ?_)
        refine goes_ Try.func64 (by kernel_rfl) rfl #[.slice A515_0 (rd_L4 l1 a2).length c515_0, .slice A516_0 (rd_L4 l1 a3).length c516_0] (by rfl) rfl rfl zM ?_
        with_reducible refine (spec_l08Commutator.calls k _ _ (rd_L4 l1 a2) _ _ (rd_L4 l1 a3) t517 _ ?side1 ?side2 ?side3 ?side4 A15.out).mono ?_
        (case side1 => repeat (exact HR515_0.out))
        (case side2 => exact HC515_0.out)
        (case side3 => repeat (exact HR516_0.out))
        (case side4 => exact HC516_0.out)
        rintro e w17 ⟨v518, rfl, ho0, hb⟩
        refine ⟨_, rfl, ?_⟩
        have HO519 := zA (Kd.S_lower ho0 (by exact Nat.le_refl _))
        replace HB := zA (show Below w.heap.size w _ from (by exact (below_step (below_drew1 (pw_below_drewN (Below.refl w.heap.size w) _)) hb)))
        (try clear hb)
        (try clear hb2)
        (try clear hk)
        (try clear hi)
        (try clear ho0)
        refine hK.out _ _ ⟨(zH HB hw515_0 :), (zH HB hw516_0 :)⟩ (fun hHeld => ?_)
        clear hK K
        refine norm_ (a' := ?_) ?_ ?_
        rotate_left
        ·show Act.put _ (some 36) _ = _
         simp only [Act.put, List.setIfInBounds_toArray, List.set, i64_w, i32_w]
         rfl
        refine zP 9 (N := some 8) (h := ?_)
        refine zP 10 (N := some 9) (h := ?_)
        refine done_ (done_of HT_.out (by kernel_rfl)) ?_
        try go_wp2
        go_ret2
        exact ⟨_, by rfl, zS, zB⟩
       ·rw [if_neg c14] at H
        exact absurd H (by simp)
      ·rw [if_neg c13] at H
       exact absurd H (by simp)
     ·rw [if_neg c12] at H
      exact absurd H (by simp)
    ·rw [if_neg c11] at H
     exact absurd H (by simp)
   ·replace c10 := Bool.eq_false_iff.mpr c10
    subst c10
    have H1 : (some (([] : List (List Int)), 2)) = some (r1, r2) := by rw [if_neg (show ¬ (false = true) by decide)] at H; exact H
    clear H
    have H := H1
    clear H1
    simp only [Option.some.injEq, Prod.mk.injEq] at H
    obtain ⟨rfl, rfl⟩ := H
    go_enter Try.func23, Try.ntmps23
    go_wp2_with (first | ((with_reducible refine gate_callee (f := 48) rfl ?_); refine goesL_ (some 13) rfl rfl Try.func48 (by kernel_rfl) rfl #[.int .i64 a0, .slice A1 l1.length c1] rfl zM ?_; (with_reducible refine (spec_l08Are.calls k a0 _ _ l1 true _ ?side1 ?side2 A5.out).mono ?_); (case side1 => repeat (exact HR1.out)); (case side2 => exact HC1.out); rintro e w' ⟨rfl, ⟨nd, rfl⟩⟩; refine ⟨_, rfl, ?_⟩) | ((with_reducible refine gate_callee (f := 61) rfl ?_); refine goesL_ (some 19) rfl rfl Try.func61 (by kernel_rfl) rfl #[.int .i64 a2, .int .i64 0, .int .i64 (wrap64 (a0 - 1))] rfl zM ?_; (with_reducible refine (spec_l01In.calls a2 0 (wrap64 (a0 - 1)) true _ A7.out).mono ?_); rintro e w' ⟨rfl, ⟨nd, rfl⟩⟩; refine ⟨_, rfl, ?_⟩) | (go_at_call 61; (with_reducible refine (spec_l01In.calls a3 0 (wrap64 (a0 - 1)) false _ A9.out).mono ?_); rintro e w' ⟨rfl, ⟨nd, rfl⟩⟩))
    go_ret2
    exact ⟨_, by rfl, by exact Kd.S_nil _ _ _ _ _, zB⟩
  ·replace c8 := Bool.eq_false_iff.mpr c8
   subst c8
   have H1 : (some (([] : List (List Int)), 2)) = some (r1, r2) := by rw [if_neg (show ¬ (false = true) by decide)] at H; exact H
   clear H
   have H := H1
   clear H1
   simp only [Option.some.injEq, Prod.mk.injEq] at H
   obtain ⟨rfl, rfl⟩ := H
   go_enter Try.func23, Try.ntmps23
   go_wp2_with (first | ((with_reducible refine gate_callee (f := 48) rfl ?_); refine goesL_ (some 13) rfl rfl Try.func48 (by kernel_rfl) rfl #[.int .i64 a0, .slice A1 l1.length c1] rfl zM ?_; (with_reducible refine (spec_l08Are.calls k a0 _ _ l1 true _ ?side1 ?side2 A5.out).mono ?_); (case side1 => repeat (exact HR1.out)); (case side2 => exact HC1.out); rintro e w' ⟨rfl, ⟨nd, rfl⟩⟩; refine ⟨_, rfl, ?_⟩) | ((with_reducible refine gate_callee (f := 61) rfl ?_); refine goesL_ (some 19) rfl rfl Try.func61 (by kernel_rfl) rfl #[.int .i64 a2, .int .i64 0, .int .i64 (wrap64 (a0 - 1))] rfl zM ?_; (with_reducible refine (spec_l01In.calls a2 0 (wrap64 (a0 - 1)) false _ A7.out).mono ?_); rintro e w' ⟨rfl, ⟨nd, rfl⟩⟩; refine ⟨_, rfl, ?_⟩))
   go_ret2
   exact ⟨_, by rfl, by exact Kd.S_nil _ _ _ _ _, zB⟩
 ·replace c6 := Bool.eq_false_iff.mpr c6
  subst c6
  have H1 : (some (([] : List (List Int)), 1)) = some (r1, r2) := by rw [if_neg (show ¬ (false = true) by decide)] at H; exact H
  clear H
  have H := H1
  clear H1
  simp only [Option.some.injEq, Prod.mk.injEq] at H
  obtain ⟨rfl, rfl⟩ := H
  go_enter Try.func23, Try.ntmps23
  go_wp2_with (first | ((with_reducible refine gate_callee (f := 48) rfl ?_); refine goesL_ (some 13) rfl rfl Try.func48 (by kernel_rfl) rfl #[.int .i64 a0, .slice A1 l1.length c1] rfl zM ?_; (with_reducible refine (spec_l08Are.calls k a0 _ _ l1 false _ ?side1 ?side2 A5.out).mono ?_); (case side1 => repeat (exact HR1.out)); (case side2 => exact HC1.out); rintro e w' ⟨rfl, ⟨nd, rfl⟩⟩; refine ⟨_, rfl, ?_⟩))
  go_ret2
  exact ⟨_, by rfl, by exact Kd.S_nil _ _ _ _ _, zB⟩


/-! ### impl_TurnTables: function 24 -/
def impl_TurnTables.f  : Option ((List (List (List Int)))) := some (([(([(([0, 1] : List Int)), (([0, 0] : List Int))] : List (List Int))), (([(([0, 0] : List Int)), (([1, 0] : List Int))] : List (List Int)))] : List (List (List Int))))
theorem impl_TurnTables.calls  (r : List (List (List Int))) (w : World) (h : impl_TurnTables.f  = some r) :
 Calls Try.prog 24 #[] w fun e w' => ∃ v0_ : Value, e = .returned (v0_) ∧ Kd.N (Kd.slice 45 (Kd.slice 2 (Kd.int .i64))) 27 w' w.heap.size (fun k_ => (w.heap.size ≤ k_)) v0_ r ∧ Below w.heap.size w w' := by
 have HB := zA (Below.refl w.heap.size w)
 have H : (some (([(([(([0, 1] : List Int)), (([0, 0] : List Int))] : List (List Int))), (([(([0, 0] : List Int)), (([1, 0] : List Int))] : List (List Int)))] : List (List (List Int))))) = some r := h
 clear h
 obtain ⟨y520, hy520⟩ : ∃ y_ : List Int, y_ = (([0, 1] : List Int)) := ⟨_, rfl⟩
 replace H : (some (([(([y520, (([0, 0] : List Int))] : List (List Int))), (([(([0, 0] : List Int)), (([1, 0] : List Int))] : List (List Int)))] : List (List (List Int))))) = some r := by (rw [hy520]; with_reducible exact H)
 have Ny520 := zA hy520
 clear hy520
 obtain ⟨y523, hy523⟩ : ∃ y_ : List Int, y_ = (([0, 0] : List Int)) := ⟨_, rfl⟩
 replace H : (some (([(([y520, y523] : List (List Int))), (([(([0, 0] : List Int)), (([1, 0] : List Int))] : List (List Int)))] : List (List (List Int))))) = some r := by (rw [hy523]; with_reducible exact H)
 have Ny523 := zA hy523
 clear hy523
 obtain ⟨y526, hy526⟩ : ∃ y_ : List (List Int), y_ = (([y520, y523] : List (List Int))) := ⟨_, rfl⟩
 replace H : (some (([y526, (([(([0, 0] : List Int)), (([1, 0] : List Int))] : List (List Int)))] : List (List (List Int))))) = some r := by (rw [hy526]; with_reducible exact H)
 have Ny526 := zA hy526
 clear hy526
 obtain ⟨y529, hy529⟩ : ∃ y_ : List Int, y_ = (([0, 0] : List Int)) := ⟨_, rfl⟩
 replace H : (some (([y526, (([y529, (([1, 0] : List Int))] : List (List Int)))] : List (List (List Int))))) = some r := by (rw [hy529]; with_reducible exact H)
 have Ny529 := zA hy529
 clear hy529
 obtain ⟨y532, hy532⟩ : ∃ y_ : List Int, y_ = (([1, 0] : List Int)) := ⟨_, rfl⟩
 replace H : (some (([y526, (([y529, y532] : List (List Int)))] : List (List (List Int))))) = some r := by (rw [hy532]; with_reducible exact H)
 have Ny532 := zA hy532
 clear hy532
 obtain ⟨y535, hy535⟩ : ∃ y_ : List (List Int), y_ = (([y529, y532] : List (List Int))) := ⟨_, rfl⟩
 replace H : (some (([y526, y535] : List (List (List Int))))) = some r := by (rw [hy535]; with_reducible exact H)
 have Ny535 := zA hy535
 clear hy535
 obtain ⟨y538, hy538⟩ : ∃ y_ : List (List (List Int)), y_ = (([y526, y535] : List (List (List Int)))) := ⟨_, rfl⟩
 replace H : (some y538) = some r := by (rw [hy538]; with_reducible exact H)
 have Ny538 := zA hy538
 clear hy538
 obtain rfl := Option.some.inj H
 go_enter Try.func24, Try.ntmps24
 go_wp2_with (first | ((with_reducible refine gate_dst (N := 1) rfl ?_); refine Kd.R_lit (Kd.int .i64) _ 2 ?hg (N := 1) ?hd (xs := ([0, 1] : List Int)) (inner := [.int .i64 0, .int .i64 1]) (ok := fun _ => True) (okp := fun _ => True) ?hr ?hp (fun _ hk => hk) trivial (Below.refl _ _) (Nat.le_refl _) (by simp) ?_; (case hd => rfl); (case hg => rfl); (case hr => (go_simp; done)); (case hp => exact (Reps.one (show Kd.M (Kd.int .i64) _ _ _ 0 [.int .i64 0] from rfl) (Reps.one (show Kd.M (Kd.int .i64) _ _ _ 1 [.int .i64 1] from rfl) (Reps.none _ _)))); intro v521 w1 ho2 hb hg_ hnew_; clear hg_ hnew_; (rw [← Ny520.out] at ho2); have HO522 := zA (Kd.R_lower (Kd.R_newM (M := fun k_ => (w.heap.size ≤ k_)) ho2 (below_size zB) (fun k_ h_ => h_)) (below_size zB)); replace HB := zA (below_step zB hb); clear hb ho2) | ((with_reducible refine gate_dst (N := 2) rfl ?_); refine Kd.R_lit (Kd.int .i64) _ 2 ?hg (N := 2) ?hd (xs := ([0, 0] : List Int)) (inner := [.int .i64 0, .int .i64 0]) (ok := fun _ => True) (okp := fun _ => True) ?hr ?hp (fun _ hk => hk) trivial (Below.refl _ _) (Nat.le_refl _) (by simp) ?_; (case hd => rfl); (case hg => rfl); (case hr => (go_simp; done)); (case hp => exact (Reps.one (show Kd.M (Kd.int .i64) _ _ _ 0 [.int .i64 0] from rfl) (Reps.one (show Kd.M (Kd.int .i64) _ _ _ 0 [.int .i64 0] from rfl) (Reps.none _ _)))); intro v524 w3 ho4 hb hg_ hnew_; clear hg_ hnew_; (rw [← Ny523.out] at ho4); have HO525 := zA (Kd.R_lower (Kd.R_new' (Kd.R_newM (M := fun k_ => (w.heap.size ≤ k_)) ho4 (below_size zB) (fun k_ h_ => h_)) (Kd.R_lt HO522.out)) (below_size zB)); replace HO522 := zA (Kd.R_elder' zR (Kd.R_base ho4) hb); replace HB := zA (below_step zB hb); clear hb ho4; obtain ⟨Ao5, co5, eo5⟩ := Kd.R_slice HO522.out; subst eo5; obtain ⟨Ao6, co6, eo6⟩ := Kd.R_slice HO525.out; subst eo6) | ((with_reducible refine gate_dst (N := 3) rfl ?_); refine Kd.N_lit (Kd.slice 2 (Kd.int .i64)) _ 45 ?hg (N' := 3) ?hd (xs := ([y520, y523] : List (List Int))) (inner := [.slice Ao5 y520.length co5, .slice Ao6 y523.length co6]) (ok := (fun k_ => (w.heap.size ≤ k_))) (okp := (fun k_ => (w.heap.size ≤ k_))) ?hr ?hp (fun _ hk => hk) ((show ∀ k_, w3.heap.size ≤ k_ → (fun k_ => (w.heap.size ≤ k_)) k_ from fun k_ hk => (Nat.le_trans (below_size zB) hk)) _ (Nat.le_refl _)) (Below.refl _ _) (Nat.le_refl _) (by simp) ?_; (case hd => rfl); (case hg => rfl); (case hr => (go_simp; done)); (case hp => exact (Reps.one (show Kd.FK (Kd.slice 2 (Kd.int .i64)) _ _ y520 [.slice Ao5 y520.length co5] from (Kd.FK_slice_mk (Kd.R_reads' (Kd.R_mono (ok' := (fun k_ => (w.heap.size ≤ k_))) (HO522.out) (fun k_ hk => hk.1.1))).2.1 (Kd.R_F (Kd.R_mono (ok' := (fun k_ => (w.heap.size ≤ k_))) (HO522.out) (fun k_ hk => hk.1.1))))) (Reps.one (show Kd.FK (Kd.slice 2 (Kd.int .i64)) _ _ y523 [.slice Ao6 y523.length co6] from (Kd.FK_slice_mk (Kd.R_reads' (Kd.R_mono (ok' := (fun k_ => (w.heap.size ≤ k_))) (HO525.out) (fun k_ hk => hk.1.1))).2.1 (Kd.R_F (Kd.R_mono (ok' := (fun k_ => (w.heap.size ≤ k_))) (HO525.out) (fun k_ hk => hk.1.1))))) (Reps.none _ _)))); intro v527 w7 ho8 hb hg_ hnew_; clear hg_ hnew_; (rw [← Ny526.out] at ho8); have HO528 := zA (Kd.N_lower ho8 (below_size zB)); replace HB := zA (below_step zB hb); clear HO522 HO525; clear hb ho8) | ((with_reducible refine gate_dst (N := 4) rfl ?_); refine Kd.R_lit (Kd.int .i64) _ 2 ?hg (N := 4) ?hd (xs := ([0, 0] : List Int)) (inner := [.int .i64 0, .int .i64 0]) (ok := fun _ => True) (okp := fun _ => True) ?hr ?hp (fun _ hk => hk) trivial (Below.refl _ _) (Nat.le_refl _) (by simp) ?_; (case hd => rfl); (case hg => rfl); (case hr => (go_simp; done)); (case hp => exact (Reps.one (show Kd.M (Kd.int .i64) _ _ _ 0 [.int .i64 0] from rfl) (Reps.one (show Kd.M (Kd.int .i64) _ _ _ 0 [.int .i64 0] from rfl) (Reps.none _ _)))); intro v530 w9 ho10 hb hg_ hnew_; clear hg_ hnew_; (rw [← Ny529.out] at ho10); have HO531 := zA (Kd.R_lower (Kd.R_newM (M := fun k_ => (w.heap.size ≤ k_)) ho10 (below_size zB) (fun k_ h_ => h_)) (below_size zB)); replace HO528 := zA (Kd.N_elder' (by exact HO528.out) (Kd.R_base ho10) hb); replace HB := zA (below_step zB hb); clear hb ho10) | ((with_reducible refine gate_dst (N := 5) rfl ?_); refine Kd.R_lit (Kd.int .i64) _ 2 ?hg (N := 5) ?hd (xs := ([1, 0] : List Int)) (inner := [.int .i64 1, .int .i64 0]) (ok := fun _ => True) (okp := fun _ => True) ?hr ?hp (fun _ hk => hk) trivial (Below.refl _ _) (Nat.le_refl _) (by simp) ?_; (case hd => rfl); (case hg => rfl); (case hr => (go_simp; done)); (case hp => exact (Reps.one (show Kd.M (Kd.int .i64) _ _ _ 1 [.int .i64 1] from rfl) (Reps.one (show Kd.M (Kd.int .i64) _ _ _ 0 [.int .i64 0] from rfl) (Reps.none _ _)))); intro v533 w11 ho12 hb hg_ hnew_; clear hg_ hnew_; (rw [← Ny532.out] at ho12); have HO534 := zA (Kd.R_lower (Kd.R_new' (Kd.R_newM (M := fun k_ => (w.heap.size ≤ k_)) ho12 (below_size zB) (fun k_ h_ => h_)) (Kd.R_lt HO531.out)) (below_size zB)); replace HO528 := zA (Kd.N_elder' (by exact HO528.out) (Kd.R_base ho12) hb); replace HO531 := zA (Kd.R_elder' zR (Kd.R_base ho12) hb); replace HB := zA (below_step zB hb); clear hb ho12; obtain ⟨Ao13, co13, eo13⟩ := Kd.R_slice HO531.out; subst eo13; obtain ⟨Ao14, co14, eo14⟩ := Kd.R_slice HO534.out; subst eo14) | ((with_reducible refine gate_dst (N := 6) rfl ?_); refine Kd.N_lit (Kd.slice 2 (Kd.int .i64)) _ 45 ?hg (N' := 6) ?hd (xs := ([y529, y532] : List (List Int))) (inner := [.slice Ao13 y529.length co13, .slice Ao14 y532.length co14]) (ok := (fun k_ => (w.heap.size ≤ k_) ∧ some k_ ≠ (v527 : Value).ownBlock)) (okp := (fun k_ => (w.heap.size ≤ k_) ∧ some k_ ≠ (v527 : Value).ownBlock)) ?hr ?hp (fun _ hk => hk) ((show ∀ k_, w11.heap.size ≤ k_ → (fun k_ => (w.heap.size ≤ k_) ∧ some k_ ≠ (v527 : Value).ownBlock) k_ from fun k_ hk => ⟨(Nat.le_trans (below_size zB) hk), Kd.fresh' (Kd.N_lt (by exact HO528.out)) k_ hk⟩) _ (Nat.le_refl _)) (Below.refl _ _) (Nat.le_refl _) (by simp) ?_; (case hd => rfl); (case hg => rfl); (case hr => (go_simp; done)); (case hp => exact (Reps.one (show Kd.FK (Kd.slice 2 (Kd.int .i64)) _ _ y529 [.slice Ao13 y529.length co13] from (Kd.FK_slice_mk (Kd.R_reads' (Kd.R_mono (ok' := (fun k_ => (w.heap.size ≤ k_) ∧ some k_ ≠ (v527 : Value).ownBlock)) (Kd.R_apart' (HO531.out) (Kd.N_typed HO528.out) (by decide)) (fun k_ hk => ⟨hk.1.1.1, hk.2⟩))).2.1 (Kd.R_F (Kd.R_mono (ok' := (fun k_ => (w.heap.size ≤ k_) ∧ some k_ ≠ (v527 : Value).ownBlock)) (Kd.R_apart' (HO531.out) (Kd.N_typed HO528.out) (by decide)) (fun k_ hk => ⟨hk.1.1.1, hk.2⟩))))) (Reps.one (show Kd.FK (Kd.slice 2 (Kd.int .i64)) _ _ y532 [.slice Ao14 y532.length co14] from (Kd.FK_slice_mk (Kd.R_reads' (Kd.R_mono (ok' := (fun k_ => (w.heap.size ≤ k_) ∧ some k_ ≠ (v527 : Value).ownBlock)) (Kd.R_apart' (HO534.out) (Kd.N_typed HO528.out) (by decide)) (fun k_ hk => ⟨hk.1.1.1, hk.2⟩))).2.1 (Kd.R_F (Kd.R_mono (ok' := (fun k_ => (w.heap.size ≤ k_) ∧ some k_ ≠ (v527 : Value).ownBlock)) (Kd.R_apart' (HO534.out) (Kd.N_typed HO528.out) (by decide)) (fun k_ hk => ⟨hk.1.1.1, hk.2⟩))))) (Reps.none _ _)))); intro v536 w15 ho16 hb hg_ hnew_; clear hg_ hnew_; (rw [← Ny535.out] at ho16); have HO537 := zA (Kd.N_lower ho16 (below_size zB)); replace HO528 := zA (Kd.N_elder' (by exact HO528.out) (Kd.N_base ho16) hb); replace HB := zA (below_step zB hb); clear HO531 HO534; clear hb ho16; obtain ⟨Ao17, co17, eo17⟩ := Kd.N_slice HO528.out; subst eo17; obtain ⟨Ao18, co18, eo18⟩ := Kd.N_slice HO537.out; subst eo18) | ((with_reducible refine gate_dst (N := 7) rfl ?_); refine Kd.N_lit (Kd.slice 45 (Kd.slice 2 (Kd.int .i64))) _ 27 ?hg (N' := 7) ?hd (xs := ([y526, y535] : List (List (List Int)))) (inner := [.slice Ao17 y526.length co17, .slice Ao18 y535.length co18]) (ok := (fun k_ => (w.heap.size ≤ k_))) (okp := (fun k_ => (w.heap.size ≤ k_))) ?hr ?hp (fun _ hk => hk) ((show ∀ k_, w15.heap.size ≤ k_ → (fun k_ => (w.heap.size ≤ k_)) k_ from fun k_ hk => (Nat.le_trans (below_size zB) hk)) _ (Nat.le_refl _)) (Below.refl _ _) (Nat.le_refl _) (by simp) ?_; (case hd => rfl); (case hg => rfl); (case hr => (go_simp; done)); (case hp => exact (Reps.one (show Kd.FK (Kd.slice 45 (Kd.slice 2 (Kd.int .i64))) _ _ y526 [.slice Ao17 y526.length co17] from (Kd.FK_slice_mk (Kd.N_reads' (Kd.N_mono (ok' := (fun k_ => (w.heap.size ≤ k_))) (HO528.out) (fun k_ hk => hk.1.1.1))).2.1 (Kd.N_F (Kd.N_mono (ok' := (fun k_ => (w.heap.size ≤ k_))) (HO528.out) (fun k_ hk => hk.1.1.1))))) (Reps.one (show Kd.FK (Kd.slice 45 (Kd.slice 2 (Kd.int .i64))) _ _ y535 [.slice Ao18 y535.length co18] from (Kd.FK_slice_mk (Kd.N_reads' (Kd.N_mono (ok' := (fun k_ => (w.heap.size ≤ k_))) (HO537.out) (fun k_ hk => hk.1))).2.1 (Kd.N_F (Kd.N_mono (ok' := (fun k_ => (w.heap.size ≤ k_))) (HO537.out) (fun k_ hk => hk.1))))) (Reps.none _ _)))); intro v539 w19 ho20 hb hg_ hnew_; clear hg_ hnew_; (rw [← Ny538.out] at ho20); have HO540 := zA (Kd.N_lower ho20 (below_size zB)); replace HB := zA (below_step zB hb); clear HO528 HO537; clear hb ho20))
 go_ret
 exact ⟨_, by rfl, by exact HO540.out, zB⟩


end Go.Proofs.Ytkbneilobaehkaa.P
