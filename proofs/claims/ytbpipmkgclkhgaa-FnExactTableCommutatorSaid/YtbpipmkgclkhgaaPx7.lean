/- What a call of each Go function named below comes to is what the plain Lean function beside it says. Made by a program of this session out of the print of the translation; Lean checks it. -/
import Derived.Test.YtbpipmkgclkhgaaPx0
import Derived.Test.YtbpipmkgclkhgaaPx3
import Derived.Test.YtbpipmkgclkhgaaPx4
import Derived.Test.YtbpipmkgclkhgaaPx6
import Derived.Test.YtbpipmkgclkhgaaHand
import Derived.Test.YtbpipmkgclkhgaaHandRows
import Derived.Test.YtbpipmkgclkhgaaHandRows3
namespace Go.Proofs.Ytbpipmkgclkhgaa.P
open Go.RowKit Go.Proofs.YtbpipmkgclkhgaaW.PrintWords Go.Proofs.YtbpipmkgclkhgaaW.PrintLast Go.Proofs.YtbpipmkgclkhgaaW.PrintMore
attribute [local go_sem] max2_int min2_int max_two min_two max_three min_three max_four min_four   -- for this text's walks alone
set_option linter.unusedVariables false
set_option linter.unusedSimpArgs false


/-! ### spec_TableCommutator: function 28 -/
def spec_TableCommutator.f (k : Nat) (a0 : Int) (l1 : List (List (List Int))) (a2 : Int) (a3 : Int) : Option ((List (List Int)) × Int) := (spec_l08Are.f k a0 l1).bind fun t187 => (if t187 = true then ((spec_l01In.f a2 0 (wrap64 (a0 - 1))).bind fun t188 => (if t188 = true then ((spec_l01In.f a3 0 (wrap64 (a0 - 1))).bind fun t189 => (if t189 = true then (if 0 ≤ a2 then (if a2 < (l1.length : Int) then (if 0 ≤ a3 then (if a3 < (l1.length : Int) then ((spec_l08Commutator.f k (rd_L2 l1 a2) (rd_L2 l1 a3)).bind fun t192 => (some (t192, 0))) else (none)) else (none)) else (none)) else (none)) else (some (([] : List (List Int)), 2)))) else (some (([] : List (List Int)), 2)))) else (some (([] : List (List Int)), 1)))
theorem spec_TableCommutator.mono : ∀ a0 a1 a2 a3 k, LeO (spec_TableCommutator.f k a0 a1 a2 a3) (spec_TableCommutator.f (k + 1) a0 a1 a2 a3) := by
  intro a0 a1 a2 a3 k
  unfold spec_TableCommutator.f
  repeat' first
      | (with_reducible exact spec_l08Are.mono _ _ _)
      | (with_reducible exact spec_l08Commutator.mono _ _ _)
      | (with_reducible exact LeO.refl _)
      | (with_reducible exact LeO.none _)
      | (with_reducible refine LeO.ite ?_ ?_)
      | (with_reducible refine LeO.bind ?_ (fun _ => ?_))
      | exact spec_l08Are.mono _ _ _
      | exact spec_l08Commutator.mono _ _ _
      | exact LeO.none _
      | refine LeO.ite ?_ ?_
      | refine LeO.bind ?_ (fun _ => ?_)
def spec_TableCommutator.T5 : Bool × List (List Nat × List Nat) := (true, [([], []), ([], []), ([0, 1], [0, 1]), ([2], [2]), ([], []), ([], []), ([4, 5], [4, 5]), ([6], [6]), ([3, 7], [3, 7]), ([8, 8, 0, 1, 2, 3, 4, 5, 6, 7, 8], [8]), ([9, 0, 1, 2, 3, 4, 5, 6, 7, 8, 9], [])])
def spec_TableCommutator.B5 : List Nat := [0, 0, 3, 7, 0, 0, 48, 112, 255, 511, 1023]
theorem spec_TableCommutator.tab5 : rtab .any (opsOf Try.f28 5) = spec_TableCommutator.T5 := by kernel_rfl
theorem spec_TableCommutator.bits5 : waitsOk spec_TableCommutator.T5.2 spec_TableCommutator.B5 = true := by kernel_rfl
set_option maxHeartbeats 8000000 in
set_option maxRecDepth 100000 in
theorem spec_TableCommutator.calls (k : Nat) (a0 : Int) (A1 : Option Addr) (c1 : Nat) (l1 : List (List (List Int))) (a2 : Int) (a3 : Int) (r1 : List (List Int)) (r2 : Int) (w : World) (hr1 : Kd.C (Kd.slice 44 (Kd.slice 2 (Kd.int .i64))) w A1 l1.length l1) (hc1 : l1.length ≤ c1) (h : spec_TableCommutator.f k a0 l1 a2 a3 = some (r1, r2)) :
    Calls Try.prog 28 #[.int .i64 a0, .slice A1 l1.length c1, .int .i64 a2, .int .i64 a3] w fun e w' => ∃ v0_ : Value, e = .returned (.tuple #[v0_, .int .i64 r2]) ∧ Kd.S (Kd.slice 2 (Kd.int .i64)) 44 w' w.heap.size (fun _ => True) v0_ r1 ∧ Below w.heap.size w w' := by
  have HR1 := Aside0.mk hr1
  have HC1 := Aside0.mk hc1
  clear hr1 hc1
  have HB := Aside0.mk (Below.refl w.heap.size w)
  have H : ((spec_l08Are.f k a0 l1).bind fun t187 => (if t187 = true then ((spec_l01In.f a2 0 (wrap64 (a0 - 1))).bind fun t188 => (if t188 = true then ((spec_l01In.f a3 0 (wrap64 (a0 - 1))).bind fun t189 => (if t189 = true then (if 0 ≤ a2 then (if a2 < (l1.length : Int) then (if 0 ≤ a3 then (if a3 < (l1.length : Int) then ((spec_l08Commutator.f k (rd_L2 l1 a2) (rd_L2 l1 a3)).bind fun t192 => (some (t192, 0))) else (none)) else (none)) else (none)) else (none)) else (some (([] : List (List Int)), 2)))) else (some (([] : List (List Int)), 2)))) else (some (([] : List (List Int)), 1)))) = some (r1, r2) := h
  clear h
  replace H := Option.bind_eq_some_iff.mp H
  obtain ⟨t187, A50, H⟩ := H
  replace H : (if t187 = true then ((spec_l01In.f a2 0 (wrap64 (a0 - 1))).bind fun t188 => (if t188 = true then ((spec_l01In.f a3 0 (wrap64 (a0 - 1))).bind fun t189 => (if t189 = true then (if 0 ≤ a2 then (if a2 < (l1.length : Int) then (if 0 ≤ a3 then (if a3 < (l1.length : Int) then ((spec_l08Commutator.f k (rd_L2 l1 a2) (rd_L2 l1 a3)).bind fun t192 => (some (t192, 0))) else (none)) else (none)) else (none)) else (none)) else (some (([] : List (List Int)), 2)))) else (some (([] : List (List Int)), 2)))) else (some (([] : List (List Int)), 1))) = some (r1, r2) := H
  have A5 := Aside0.mk A50
  clear A50
  by_cases c6 : t187 = true
  · subst c6
    have H1 : ((spec_l01In.f a2 0 (wrap64 (a0 - 1))).bind fun t188 => (if t188 = true then ((spec_l01In.f a3 0 (wrap64 (a0 - 1))).bind fun t189 => (if t189 = true then (if 0 ≤ a2 then (if a2 < (l1.length : Int) then (if 0 ≤ a3 then (if a3 < (l1.length : Int) then ((spec_l08Commutator.f k (rd_L2 l1 a2) (rd_L2 l1 a3)).bind fun t192 => (some (t192, 0))) else (none)) else (none)) else (none)) else (none)) else (some (([] : List (List Int)), 2)))) else (some (([] : List (List Int)), 2)))) = some (r1, r2) := by rw [if_pos rfl] at H; exact H
    clear H
    have H := H1
    clear H1
    replace H := Option.bind_eq_some_iff.mp H
    obtain ⟨t188, A70, H⟩ := H
    replace H : (if t188 = true then ((spec_l01In.f a3 0 (wrap64 (a0 - 1))).bind fun t189 => (if t189 = true then (if 0 ≤ a2 then (if a2 < (l1.length : Int) then (if 0 ≤ a3 then (if a3 < (l1.length : Int) then ((spec_l08Commutator.f k (rd_L2 l1 a2) (rd_L2 l1 a3)).bind fun t192 => (some (t192, 0))) else (none)) else (none)) else (none)) else (none)) else (some (([] : List (List Int)), 2)))) else (some (([] : List (List Int)), 2))) = some (r1, r2) := H
    have A7 := Aside0.mk A70
    clear A70
    by_cases c8 : t188 = true
    · subst c8
      have H1 : ((spec_l01In.f a3 0 (wrap64 (a0 - 1))).bind fun t189 => (if t189 = true then (if 0 ≤ a2 then (if a2 < (l1.length : Int) then (if 0 ≤ a3 then (if a3 < (l1.length : Int) then ((spec_l08Commutator.f k (rd_L2 l1 a2) (rd_L2 l1 a3)).bind fun t192 => (some (t192, 0))) else (none)) else (none)) else (none)) else (none)) else (some (([] : List (List Int)), 2)))) = some (r1, r2) := by rw [if_pos rfl] at H; exact H
      clear H
      have H := H1
      clear H1
      replace H := Option.bind_eq_some_iff.mp H
      obtain ⟨t189, A90, H⟩ := H
      replace H : (if t189 = true then (if 0 ≤ a2 then (if a2 < (l1.length : Int) then (if 0 ≤ a3 then (if a3 < (l1.length : Int) then ((spec_l08Commutator.f k (rd_L2 l1 a2) (rd_L2 l1 a3)).bind fun t192 => (some (t192, 0))) else (none)) else (none)) else (none)) else (none)) else (some (([] : List (List Int)), 2))) = some (r1, r2) := H
      have A9 := Aside0.mk A90
      clear A90
      by_cases c10 : t189 = true
      · subst c10
        have H1 : (if 0 ≤ a2 then (if a2 < (l1.length : Int) then (if 0 ≤ a3 then (if a3 < (l1.length : Int) then ((spec_l08Commutator.f k (rd_L2 l1 a2) (rd_L2 l1 a3)).bind fun t192 => (some (t192, 0))) else (none)) else (none)) else (none)) else (none)) = some (r1, r2) := by rw [if_pos rfl] at H; exact H
        clear H
        have H := H1
        clear H1
        by_cases c11 : 0 ≤ a2
        · rw [if_pos c11] at H
          have c11b0 : decide (0 ≤ a2) = true := decide_eq_true c11
          clear c11
          by_cases c12 : a2 < (l1.length : Int)
          · rw [if_pos c12] at H
            have c12b0 : decide (a2 < (l1.length : Int)) = true := decide_eq_true c12
            clear c12
            by_cases c13 : 0 ≤ a3
            · rw [if_pos c13] at H
              have c13b0 : decide (0 ≤ a3) = true := decide_eq_true c13
              clear c13
              by_cases c14 : a3 < (l1.length : Int)
              · rw [if_pos c14] at H
                have c14b0 : decide (a3 < (l1.length : Int)) = true := decide_eq_true c14
                clear c14
                replace H := Option.bind_eq_some_iff.mp H
                obtain ⟨t192, A150, H⟩ := H
                replace H : (some (t192, 0)) = some (r1, r2) := H
                have A15 := Aside0.mk A150
                clear A150
                simp only [Option.some.injEq, Prod.mk.injEq] at H
                obtain ⟨rfl, rfl⟩ := H
                go_enter Try.func28, Try.ntmps28
                try go_wp2_with (first | ((with_reducible refine gate_callee (f := 51) rfl ?_); refine goesL_ (some 13) rfl rfl Try.func51 (by kernel_rfl) rfl #[.int .i64 a0, .slice A1 l1.length c1] rfl (by (try simp only [List.map_toArray, List.map_cons, List.map_nil]); first | done | rfl | (simp only [List.length_drop, List.length_take]; rfl)) ?_; (with_reducible refine (spec_l08Are.calls k a0 _ _ l1 true _ ?side1 ?side2 A5.out).mono ?_); (case side1 => repeat (first | exact HR1.out | (with_reducible refine Kd.C_alloc ?_ _) | (with_reducible refine Kd.C_drewN ?_ _) | (with_reducible refine Kd.C_drew ?_))); (case side2 => exact HC1.out); rintro e w' ⟨rfl, ⟨nd, rfl⟩⟩; refine ⟨_, rfl, ?_⟩) | ((with_reducible refine gate_callee (f := 57) rfl ?_); refine goesL_ (some 19) rfl rfl Try.func57 (by kernel_rfl) rfl #[.int .i64 a2, .int .i64 0, .int .i64 (wrap64 (a0 - 1))] rfl (by (try simp only [List.map_toArray, List.map_cons, List.map_nil]); first | done | rfl | (simp only [List.length_drop, List.length_take]; rfl)) ?_; (with_reducible refine (spec_l01In.calls a2 0 (wrap64 (a0 - 1)) true _ A7.out).mono ?_); rintro e w' ⟨rfl, ⟨nd, rfl⟩⟩; refine ⟨_, rfl, ?_⟩) | (go_at_call 57; (with_reducible refine (spec_l01In.calls a3 0 (wrap64 (a0 - 1)) true _ A9.out).mono ?_); rintro e w' ⟨rfl, ⟨nd, rfl⟩⟩))
                have n0_ := Aside0.mk (below_drew1 HB.out)
                clear HB
                have HB := n0_
                clear n0_
                have p190 : 0 ≤ (a2 : Int) := of_decide_eq_true (by first | (with_reducible assumption) | assumption)
                have q190 : a2 < (l1.length : Int) := of_decide_eq_true (by first | (with_reducible assumption) | assumption)
                obtain ⟨ad190, A190_0, c190_0, e190, hx190_0, hl190_0, hi190_0⟩ := at_L2 HR1.out a2 p190 q190
                have hw190_0 := hx190_0
                cases e190
                replace hx190_0 := (HB.out.cell (World.block_lt_of_cell? w _ hx190_0)).trans hx190_0
                have HR190_0 := Aside0.mk hi190_0
                have HC190_0 := Aside0.mk hl190_0
                clear hi190_0 hl190_0
                replace p190 := eq_true p190
                replace q190 := eq_true q190
                have p191 : 0 ≤ (a3 : Int) := of_decide_eq_true (by first | (with_reducible assumption) | assumption)
                have q191 : a3 < (l1.length : Int) := of_decide_eq_true (by first | (with_reducible assumption) | assumption)
                obtain ⟨ad191, A191_0, c191_0, e191, hx191_0, hl191_0, hi191_0⟩ := at_L2 HR1.out a3 p191 q191
                have hw191_0 := hx191_0
                obtain rfl : ad190 = ad191 := (by injection e191)
                replace hx191_0 := (HB.out.cell (World.block_lt_of_cell? w _ hx191_0)).trans hx191_0
                have HR191_0 := Aside0.mk hi191_0
                have HC191_0 := Aside0.mk hl191_0
                clear hi191_0 hl191_0
                replace p191 := eq_true p191
                replace q191 := eq_true q191
                refine start_ (n := 11) (S := fun w' => w'.cell? (ad190.add (a2).toNat) = some (.slice A190_0 (rd_L2 l1 a2).length c190_0) ∧ w'.cell? (ad190.add (a3).toNat) = some (.slice A191_0 (rd_L2 l1 a3).length c191_0)) (ds := []) #[false, false, false, false, false, false, false, false, false, false, false] (by kernel_rfl) rfl rfl ⟨((HB.out.cell (World.block_lt_of_cell? w _ hw190_0)).trans hw190_0), ((HB.out.cell (World.block_lt_of_cell? w _ hw191_0)).trans hw191_0)⟩ (fun hHeld => ?_); refine with_tabW spec_TableCommutator.tab5 spec_TableCommutator.bits5 (fun HT_ HW_ => ?_)
                generalize w.drew = w16 at HB HR190_0 HR191_0 hx190_0 hx191_0 hHeld ⊢
                refine pure_ (i := 0) (N := some 28) (v := ?_) (a' := ?_) #[true, false, false, false, false, false, false, false, false, false, false] rfl rfl (any_of HT_.out (by kernel_rfl)) (fun _ _ _ h => h) (Or.inl ⟨by rfl, ?_⟩) ?_ ?_
                rotate_left
                · intro w'
                  go_simp
                  with_reducible rfl
                rotate_left
                · simp only [Act.put, List.setIfInBounds_toArray, List.set_cons_zero, List.set_cons_succ, i64_w, i32_w]
                  rfl
                refine pure_ (i := 1) (N := some 29) (v := ?_) (a' := ?_) #[true, true, false, false, false, false, false, false, false, false, false] rfl rfl (any_of HT_.out (by kernel_rfl)) (fun _ _ _ h => h) (Or.inl ⟨by rfl, ?_⟩) ?_ ?_
                rotate_left
                · intro w'
                  go_simp
                  with_reducible rfl
                rotate_left
                · simp only [Act.put, List.setIfInBounds_toArray, List.set_cons_zero, List.set_cons_succ, i64_w, i32_w]
                  rfl
                refine pure_ (i := 2) (N := some 30) (v := ?_) (a' := ?_) #[true, true, true, false, false, false, false, false, false, false, false] rfl rfl (any_of HT_.out (by kernel_rfl)) (fun _ _ _ h => h) (Or.inl ⟨by rfl, ?_⟩) ?_ ?_
                rotate_left
                · intro w'
                  go_simp
                  with_reducible rfl
                rotate_left
                · simp only [Act.put, List.setIfInBounds_toArray, List.set_cons_zero, List.set_cons_succ, i64_w, i32_w]
                  rfl
                refine pure_ (i := 4) (N := some 32) (v := ?_) (a' := ?_) #[true, true, true, false, true, false, false, false, false, false, false] rfl rfl (any_of HT_.out (by kernel_rfl)) (fun _ _ _ h => h) (Or.inl ⟨by rfl, ?_⟩) ?_ ?_
                rotate_left
                · intro w'
                  go_simp
                  with_reducible rfl
                rotate_left
                · simp only [Act.put, List.setIfInBounds_toArray, List.set_cons_zero, List.set_cons_succ, i64_w, i32_w]
                  rfl
                refine pure_ (i := 5) (N := some 33) (v := ?_) (a' := ?_) #[true, true, true, false, true, true, false, false, false, false, false] rfl rfl (any_of HT_.out (by kernel_rfl)) (fun _ _ _ h => h) (Or.inl ⟨by rfl, ?_⟩) ?_ ?_
                rotate_left
                · intro w'
                  go_simp
                  with_reducible rfl
                rotate_left
                · simp only [Act.put, List.setIfInBounds_toArray, List.set_cons_zero, List.set_cons_succ, i64_w, i32_w]
                  rfl
                refine pure_ (i := 6) (N := some 34) (v := ?_) (a' := ?_) #[true, true, true, false, true, true, true, false, false, false, false] rfl rfl (any_of HT_.out (by kernel_rfl)) (fun _ _ _ h => h) (Or.inl ⟨by rfl, ?_⟩) ?_ ?_
                rotate_left
                · intro w'
                  go_simp
                  with_reducible rfl
                rotate_left
                · simp only [Act.put, List.setIfInBounds_toArray, List.set_cons_zero, List.set_cons_succ, i64_w, i32_w]
                  rfl
                refine take_ (i := 3) (N := some 31) (v := ?_) (a' := ?_) #[true, true, true, true, true, true, true, false, false, false, false] rfl rfl (take_ofW HT_.out HW_.out (by kernel_rfl)) (fun _ _ _ h => h) (Or.inl ⟨by rfl, ?_⟩) hHeld ?_ ?_
                rotate_left
                · rintro w' ⟨s0, s1⟩
                  go_simp
                  with_reducible rfl
                rotate_left
                · simp only [Act.put, List.setIfInBounds_toArray, List.set_cons_zero, List.set_cons_succ, i64_w, i32_w]
                  rfl
                refine take_ (i := 7) (N := some 35) (v := ?_) (a' := ?_) #[true, true, true, true, true, true, true, true, false, false, false] rfl rfl (take_ofW HT_.out HW_.out (by kernel_rfl)) (fun _ _ _ h => h) (Or.inl ⟨by rfl, ?_⟩) hHeld ?_ ?_
                rotate_left
                · rintro w' ⟨s0, s1⟩
                  go_simp
                  with_reducible rfl
                rotate_left
                · simp only [Act.put, List.setIfInBounds_toArray, List.set_cons_zero, List.set_cons_succ, i64_w, i32_w]
                  rfl
                refine one_ (i := 8) (N := some 36) #[true, true, true, true, true, true, true, true, true, false, false] rfl rfl (one_of HT_.out (by kernel_rfl)) (by decide) (fun K hK => ?_)
                refine goes_ Try.func62 (by kernel_rfl) rfl #[.slice A190_0 (rd_L2 l1 a2).length c190_0, .slice A191_0 (rd_L2 l1 a3).length c191_0] (by rfl) rfl rfl (by (try simp only [List.map_toArray, List.map_cons, List.map_nil]); first | done | rfl | (simp only [List.length_drop, List.length_take]; rfl)) ?_
                with_reducible refine (spec_l08Commutator.calls k _ _ (rd_L2 l1 a2) _ _ (rd_L2 l1 a3) t192 _ ?side1 ?side2 ?side3 ?side4 A15.out).mono ?_
                (case side1 => repeat (first | exact (Kd.C_below HR190_0.out HB.out) | exact HR190_0.out | (with_reducible refine Kd.C_alloc ?_ _) | (with_reducible refine Kd.C_drewN ?_ _) | (with_reducible refine Kd.C_drew ?_)))
                (case side2 => exact HC190_0.out)
                (case side3 => repeat (first | exact (Kd.C_below HR191_0.out HB.out) | exact HR191_0.out | (with_reducible refine Kd.C_alloc ?_ _) | (with_reducible refine Kd.C_drewN ?_ _) | (with_reducible refine Kd.C_drew ?_)))
                (case side4 => exact HC191_0.out)
                rintro e w17 ⟨v193, rfl, ho0, hb⟩
                refine ⟨_, rfl, ?_⟩
                have n0_ := Aside0.mk (Kd.S_lower ho0 (by first | exact (below_size (by repeat (first | (with_reducible first | exact HB.out | apply below_alloc | apply pw_below_drewN | apply below_drew1) | exact HB.out))) | exact Nat.le_refl _))
                have n1_ := Aside0.mk (show Below w.heap.size w _ from (by first | exact (below_step (below_drew1 (pw_below_drewN (Below.refl w.heap.size w) _)) hb) | exact (below_step (by repeat (first | (with_reducible first | exact HB.out | apply below_alloc | apply pw_below_drewN | apply below_drew1) | exact HB.out)) hb)))
                clear HB
                have HO194 := n0_
                have HB := n1_
                clear n0_ n1_
                (try clear hb)
                (try clear hb2)
                (try clear hk)
                (try clear hi)
                (try clear ho0)
                refine hK.out _ _ ⟨((HB.out.cell (World.block_lt_of_cell? w _ hw190_0)).trans hw190_0), ((HB.out.cell (World.block_lt_of_cell? w _ hw191_0)).trans hw191_0)⟩ (fun hHeld => ?_)
                clear hK K
                refine norm_ (a' := ?_) ?_ ?_
                rotate_left
                · show Act.put _ (some 36) _ = _
                  simp only [Act.put, List.setIfInBounds_toArray, List.set_cons_zero, List.set_cons_succ, i64_w, i32_w]
                  rfl
                refine pure_ (i := 9) (N := some 8) (v := ?_) (a' := ?_) #[true, true, true, true, true, true, true, true, true, true, false] rfl rfl (any_of HT_.out (by kernel_rfl)) (fun _ _ _ h => h) (Or.inl ⟨by rfl, ?_⟩) ?_ ?_
                rotate_left
                · intro w'
                  go_simp
                  with_reducible rfl
                rotate_left
                · simp only [Act.put, List.setIfInBounds_toArray, List.set_cons_zero, List.set_cons_succ, i64_w, i32_w]
                  rfl
                refine pure_ (i := 10) (N := some 9) (v := ?_) (a' := ?_) #[true, true, true, true, true, true, true, true, true, true, true] rfl rfl (any_of HT_.out (by kernel_rfl)) (fun _ _ _ h => h) (Or.inl ⟨by rfl, ?_⟩) ?_ ?_
                rotate_left
                · intro w'
                  go_simp
                  with_reducible rfl
                rotate_left
                · simp only [Act.put, List.setIfInBounds_toArray, List.set_cons_zero, List.set_cons_succ, i64_w, i32_w]
                  rfl
                refine done_ (done_of HT_.out (by kernel_rfl)) ?_
                try go_wp2
                go_ret2
                exact ⟨_, by first | rfl | (simp [errW_none, errW_some] <;> rfl) | (simp [*, errW_none, errW_some] <;> rfl), by (with_reducible repeat (first | apply Kd.S_alloc | apply Kd.S_drewN | apply Kd.S_drew)); exact HO194.out, by repeat (first | (with_reducible first | exact HB.out | apply below_alloc | apply pw_below_drewN | apply below_drew1) | exact HB.out)⟩
              · rw [if_neg c14] at H
                exact absurd H (by simp)
            · rw [if_neg c13] at H
              exact absurd H (by simp)
          · rw [if_neg c12] at H
            exact absurd H (by simp)
        · rw [if_neg c11] at H
          exact absurd H (by simp)
      · replace c10 := Bool.eq_false_iff.mpr c10
        subst c10
        have H1 : (some (([] : List (List Int)), 2)) = some (r1, r2) := by rw [if_neg (show ¬ (false = true) by decide)] at H; exact H
        clear H
        have H := H1
        clear H1
        simp only [Option.some.injEq, Prod.mk.injEq] at H
        obtain ⟨rfl, rfl⟩ := H
        go_enter Try.func28, Try.ntmps28
        go_wp2_with (first | ((with_reducible refine gate_callee (f := 51) rfl ?_); refine goesL_ (some 13) rfl rfl Try.func51 (by kernel_rfl) rfl #[.int .i64 a0, .slice A1 l1.length c1] rfl (by (try simp only [List.map_toArray, List.map_cons, List.map_nil]); first | done | rfl | (simp only [List.length_drop, List.length_take]; rfl)) ?_; (with_reducible refine (spec_l08Are.calls k a0 _ _ l1 true _ ?side1 ?side2 A5.out).mono ?_); (case side1 => repeat (first | exact HR1.out | (with_reducible refine Kd.C_alloc ?_ _) | (with_reducible refine Kd.C_drewN ?_ _) | (with_reducible refine Kd.C_drew ?_))); (case side2 => exact HC1.out); rintro e w' ⟨rfl, ⟨nd, rfl⟩⟩; refine ⟨_, rfl, ?_⟩) | ((with_reducible refine gate_callee (f := 57) rfl ?_); refine goesL_ (some 19) rfl rfl Try.func57 (by kernel_rfl) rfl #[.int .i64 a2, .int .i64 0, .int .i64 (wrap64 (a0 - 1))] rfl (by (try simp only [List.map_toArray, List.map_cons, List.map_nil]); first | done | rfl | (simp only [List.length_drop, List.length_take]; rfl)) ?_; (with_reducible refine (spec_l01In.calls a2 0 (wrap64 (a0 - 1)) true _ A7.out).mono ?_); rintro e w' ⟨rfl, ⟨nd, rfl⟩⟩; refine ⟨_, rfl, ?_⟩) | (go_at_call 57; (with_reducible refine (spec_l01In.calls a3 0 (wrap64 (a0 - 1)) false _ A9.out).mono ?_); rintro e w' ⟨rfl, ⟨nd, rfl⟩⟩))
        go_ret2
        exact ⟨_, by first | rfl | (simp [errW_none, errW_some] <;> rfl) | (simp [*, errW_none, errW_some] <;> rfl), by first | exact Kd.S_nil _ _ _ _ _ | exact Kd.N_nil _ _ _ _ _ | exact Kd.V_nil _ _ _ _ _ | exact Kd.Q_nil _ _ _ _ _ | exact Kd.R_nil _ _ _ _ _, by repeat (first | (with_reducible first | exact HB.out | apply below_alloc | apply pw_below_drewN | apply below_drew1) | exact HB.out)⟩
    · replace c8 := Bool.eq_false_iff.mpr c8
      subst c8
      have H1 : (some (([] : List (List Int)), 2)) = some (r1, r2) := by rw [if_neg (show ¬ (false = true) by decide)] at H; exact H
      clear H
      have H := H1
      clear H1
      simp only [Option.some.injEq, Prod.mk.injEq] at H
      obtain ⟨rfl, rfl⟩ := H
      go_enter Try.func28, Try.ntmps28
      go_wp2_with (first | ((with_reducible refine gate_callee (f := 51) rfl ?_); refine goesL_ (some 13) rfl rfl Try.func51 (by kernel_rfl) rfl #[.int .i64 a0, .slice A1 l1.length c1] rfl (by (try simp only [List.map_toArray, List.map_cons, List.map_nil]); first | done | rfl | (simp only [List.length_drop, List.length_take]; rfl)) ?_; (with_reducible refine (spec_l08Are.calls k a0 _ _ l1 true _ ?side1 ?side2 A5.out).mono ?_); (case side1 => repeat (first | exact HR1.out | (with_reducible refine Kd.C_alloc ?_ _) | (with_reducible refine Kd.C_drewN ?_ _) | (with_reducible refine Kd.C_drew ?_))); (case side2 => exact HC1.out); rintro e w' ⟨rfl, ⟨nd, rfl⟩⟩; refine ⟨_, rfl, ?_⟩) | ((with_reducible refine gate_callee (f := 57) rfl ?_); refine goesL_ (some 19) rfl rfl Try.func57 (by kernel_rfl) rfl #[.int .i64 a2, .int .i64 0, .int .i64 (wrap64 (a0 - 1))] rfl (by (try simp only [List.map_toArray, List.map_cons, List.map_nil]); first | done | rfl | (simp only [List.length_drop, List.length_take]; rfl)) ?_; (with_reducible refine (spec_l01In.calls a2 0 (wrap64 (a0 - 1)) false _ A7.out).mono ?_); rintro e w' ⟨rfl, ⟨nd, rfl⟩⟩; refine ⟨_, rfl, ?_⟩))
      go_ret2
      exact ⟨_, by first | rfl | (simp [errW_none, errW_some] <;> rfl) | (simp [*, errW_none, errW_some] <;> rfl), by first | exact Kd.S_nil _ _ _ _ _ | exact Kd.N_nil _ _ _ _ _ | exact Kd.V_nil _ _ _ _ _ | exact Kd.Q_nil _ _ _ _ _ | exact Kd.R_nil _ _ _ _ _, by repeat (first | (with_reducible first | exact HB.out | apply below_alloc | apply pw_below_drewN | apply below_drew1) | exact HB.out)⟩
  · replace c6 := Bool.eq_false_iff.mpr c6
    subst c6
    have H1 : (some (([] : List (List Int)), 1)) = some (r1, r2) := by rw [if_neg (show ¬ (false = true) by decide)] at H; exact H
    clear H
    have H := H1
    clear H1
    simp only [Option.some.injEq, Prod.mk.injEq] at H
    obtain ⟨rfl, rfl⟩ := H
    go_enter Try.func28, Try.ntmps28
    go_wp2_with (first | ((with_reducible refine gate_callee (f := 51) rfl ?_); refine goesL_ (some 13) rfl rfl Try.func51 (by kernel_rfl) rfl #[.int .i64 a0, .slice A1 l1.length c1] rfl (by (try simp only [List.map_toArray, List.map_cons, List.map_nil]); first | done | rfl | (simp only [List.length_drop, List.length_take]; rfl)) ?_; (with_reducible refine (spec_l08Are.calls k a0 _ _ l1 false _ ?side1 ?side2 A5.out).mono ?_); (case side1 => repeat (first | exact HR1.out | (with_reducible refine Kd.C_alloc ?_ _) | (with_reducible refine Kd.C_drewN ?_ _) | (with_reducible refine Kd.C_drew ?_))); (case side2 => exact HC1.out); rintro e w' ⟨rfl, ⟨nd, rfl⟩⟩; refine ⟨_, rfl, ?_⟩))
    go_ret2
    exact ⟨_, by first | rfl | (simp [errW_none, errW_some] <;> rfl) | (simp [*, errW_none, errW_some] <;> rfl), by first | exact Kd.S_nil _ _ _ _ _ | exact Kd.N_nil _ _ _ _ _ | exact Kd.V_nil _ _ _ _ _ | exact Kd.Q_nil _ _ _ _ _ | exact Kd.R_nil _ _ _ _ _, by repeat (first | (with_reducible first | exact HB.out | apply below_alloc | apply pw_below_drewN | apply below_drew1) | exact HB.out)⟩


/-! ### impl_within: function 53 -/
def impl_within.f (a0 : Int) (a1 : Int) (a2 : Int) : Option (Bool) := if a0 ≥ a1 then (some (decide (a0 ≤ a2))) else (some false)
set_option maxHeartbeats 8000000 in
set_option maxRecDepth 100000 in
theorem impl_within.calls (a0 : Int) (a1 : Int) (a2 : Int) (r : Bool) (w : World) (h : impl_within.f a0 a1 a2 = some r) :
    Calls Try.prog 53 #[.int .i64 a0, .int .i64 a1, .int .i64 a2] w fun e w' => e = .returned (.bool r) ∧ Drawn0 w w' := by
  have H : (if a0 ≥ a1 then (some (decide (a0 ≤ a2))) else (some false)) = some r := h
  clear h
  by_cases c4 : a0 ≥ a1
  · rw [if_pos c4] at H
    have c4b0 : decide (a1 ≤ a0) = true := decide_eq_true c4
    clear c4
    obtain rfl := Option.some.inj H
    go_enter Try.func53, Try.ntmps53
    go_wp2
    go_ret
    exact ⟨by first | rfl | (simp; done) | (simp [*]; done), by repeat (first | exact Drawn0.refl _ | apply Drawn0.step)⟩
  · rw [if_neg c4] at H
    have c4b0 : decide (a1 ≤ a0) = false := decide_eq_false c4
    clear c4
    obtain rfl := Option.some.inj H
    go_enter Try.func53, Try.ntmps53
    go_wp2
    go_ret
    exact ⟨by first | rfl | (simp; done) | (simp [*]; done), by repeat (first | exact Drawn0.refl _ | apply Drawn0.step)⟩


/-! ### impl_areLetters: function 52 -/
def impl_areLetters.f (a0 : Int) : Option (Bool) := (impl_within.f a0 1 3).bind fun t195 => (some t195)
set_option maxHeartbeats 8000000 in
set_option maxRecDepth 100000 in
theorem impl_areLetters.calls (a0 : Int) (r : Bool) (w : World) (h : impl_areLetters.f a0 = some r) :
    Calls Try.prog 52 #[.int .i64 a0] w fun e w' => e = .returned (.bool r) ∧ Drawn0 w w' := by
  have H : ((impl_within.f a0 1 3).bind fun t195 => (some t195)) = some r := h
  clear h
  replace H := Option.bind_eq_some_iff.mp H
  obtain ⟨t195, A20, H⟩ := H
  replace H : (some t195) = some r := H
  have A2 := Aside0.mk A20
  clear A20
  obtain rfl := Option.some.inj H
  go_enter Try.func52, Try.ntmps52
  go_wp2_with (first | ((with_reducible refine gate_callee (f := 53) rfl ?_); refine goesL_ (some 4) rfl rfl Try.func53 (by kernel_rfl) rfl #[.int .i64 a0, .int .i64 1, .int .i64 3] rfl (by (try simp only [List.map_toArray, List.map_cons, List.map_nil]); first | done | rfl | (simp only [List.length_drop, List.length_take]; rfl)) ?_; (with_reducible refine (impl_within.calls a0 1 3 t195 _ A2.out).mono ?_); rintro e w' ⟨rfl, ⟨nd, rfl⟩⟩; refine ⟨_, rfl, ?_⟩))
  go_ret
  exact ⟨by first | rfl | (simp; done) | (simp [*]; done), by repeat (first | exact Drawn0.refl _ | apply Drawn0.step)⟩

-- NOT PRINTED: function 96 (slices_IndexFunc_int64_int64_96)

-- NOT PRINTED: function 54 (slices_ContainsFunc_int64_int64_54)

-- NOT PRINTED: function 118 (slices_IndexFunc_int64_int64_118)

-- NOT PRINTED: function 108 (slices_ContainsFunc_int64_int64_108)


/-! ### impl_allUpTo: function 99, by hand -/
set_option maxHeartbeats 1000000 in
theorem impl_allUpTo_ask (m x : Int) (B : Nat) (W : World) (hc : W.cell? ⟨B, 0, none⟩ = some (.int .i64 m)) :
    Calls Try.prog 115 #[.int .i64 x, .pointer (some ⟨B, 0, none⟩)] W fun e w' => e = .returned (.bool (!(Hand.upToB x m))) ∧ Drawn0 W w' := by
  go_enter Try.func115, Try.ntmps115
  go_wp2_with (go_at_call 79; refine (Hand.upTo_calls x m _).mono ?_; rintro e w' ⟨rfl, nd, rfl⟩)
  go_ret
  exact ⟨rfl, by repeat (first | exact Drawn0.refl _ | apply Drawn0.step)⟩
/-- Are all numbers at most m in absolute value? -/
def impl_allUpTo.f (l0 : List Int) (a1 : Int) : Option Bool := some (!(l0.any fun x => !(Hand.upToB x a1)))
set_option maxHeartbeats 1000000 in
theorem impl_allUpTo.calls (A0 : Option Addr) (c0 : Nat) (l0 : List Int) (a1 : Int) (r : Bool) (w : World) (hr0 : Kd.C (Kd.int .i64) w A0 l0.length l0) (hc0 : l0.length ≤ c0) (h : impl_allUpTo.f l0 a1 = some r) :
    Calls Try.prog 99 #[.slice A0 l0.length c0, .int .i64 a1] w fun e w' => e = .returned (.bool r) ∧ Below w.heap.size w w' := by
  have HR := Aside0.mk hr0
  obtain rfl := Option.some.inj h
  clear hr0 hc0 h
  have eg := enters_of Try.func115 (by kernel_rfl) rfl
  go_enter Try.func99, Try.ntmps99
  go_wp2_with (go_at_call 108; refine (Hand.containsFunc_ints 115 #[.pointer (some ⟨w.heap.size, 0, none⟩)] eg (fun x => !(Hand.upToB x a1)) A0 c0 l0 _ (fun x q => impl_allUpTo_ask a1 x w.heap.size _ (by simp)) (Kd.C_alloc HR.out _)).mono ?_; rintro e w' ⟨rfl, nd, rfl⟩)
  go_ret
  exact ⟨rfl, by repeat (first | exact Below.refl _ _ | apply below_alloc | apply pw_below_drewN)⟩


/-! ### impl_AreTables: function 23, by hand -/
set_option maxHeartbeats 2000000 in
theorem impl_AreTables_row (m : Int) (B : Nat) (A : Option Addr) (c : Nat) (x : List Int) (W : World) (hc : W.cell? ⟨B, 0, none⟩ = some (.int .i64 m)) (hr : (Kd.int .i64).C W A x.length x) (hx : x.length ≤ c) :
    Calls Try.prog 98 #[.slice A x.length c, .pointer (some ⟨B, 0, none⟩)] W fun e w' => e = .returned (.bool (decide ((x.length : Int) ≠ m) || !(!(x.any fun n => !(Hand.upToB n 1000))))) ∧ Below W.heap.size W w' := by
  have HR := Aside0.mk hr
  have HX := Aside0.mk hx
  have hbig : x.length ≤ 9223372036854775807 := Kd.C_max hr
  clear hr hx
  by_cases hm : (x.length : Int) = m
  · subst hm
    rw [show (decide ((x.length : Int) ≠ (x.length : Int)) || !(!(x.any fun n => !(Hand.upToB n 1000)))) = !(!(x.any fun n => !(Hand.upToB n 1000))) from by simp]
    generalize hQ : (!(x.any fun n => !(Hand.upToB n 1000))) = Q
    have HA := Aside0.mk (show impl_allUpTo.f x 1000 = some Q from by rw [← hQ]; rfl)
    clear hQ
    go_enter Try.func98, Try.ntmps98
    go_wp2_with (go_at_call 99; refine (impl_allUpTo.calls A c x 1000 Q _ HR.out HX.out HA.out).mono ?_; rintro e w' ⟨rfl, hb⟩)
    go_ret
    exact ⟨rfl, hb⟩
  · rw [show (decide ((x.length : Int) ≠ m) || !(!(x.any fun n => !(Hand.upToB n 1000)))) = true from by simp [hm]]
    have b0 : ((x.length : Int) == m) = false := beq_eq_false_iff_ne.mpr hm
    have b1 : ((x.length : Int) != m) = true := bne_iff_ne.mpr hm
    clear hm
    go_enter Try.func98, Try.ntmps98
    go_wp2
    go_ret
    exact ⟨rfl, Below.refl _ _⟩
/-- Has a matrix n rows of n small numbers? -/
def isMat (n : Int) (x : List (List Int)) : Bool := decide ((x.length : Int) = n) && !(x.any fun r => decide ((r.length : Int) ≠ n) || !(!(r.any fun q => !(Hand.upToB q 1000))))
set_option maxHeartbeats 2000000 in
theorem impl_AreTables_mat (m : Int) (A : Option Addr) (c : Nat) (x : List (List Int)) (W : World) (hr : Kd.C (Kd.slice 2 (Kd.int .i64)) W A x.length x) (hx : x.length ≤ c) :
    Calls Try.prog 56 #[.slice A x.length c, .int .i64 m] W fun e w' => e = .returned (.bool (isMat m x)) ∧ Below W.heap.size W w' := by
  have HR := Aside0.mk hr
  have hbig : x.length ≤ 9223372036854775807 := Kd.C_max hr
  clear hr hx
  unfold isMat
  have eg := enters_of Try.func98 (by kernel_rfl) rfl
  generalize hQ : (x.any fun r => decide ((r.length : Int) ≠ m) || !(!(r.any fun q => !(Hand.upToB q 1000)))) = Q
  have HQ := Aside0.mk hQ
  clear hQ
  by_cases hm : (x.length : Int) = m
  · subst hm
    rw [show (decide ((x.length : Int) = (x.length : Int)) && !Q) = !Q from by simp]
    go_enter Try.func56, Try.ntmps56
    go_wp2_with (go_at_call 97; refine (Hand.containsFunc_rows 98 #[.pointer (some ⟨W.heap.size, 0, none⟩)] eg (fun r => decide ((r.length : Int) ≠ (x.length : Int)) || !(!(r.any fun q => !(Hand.upToB q 1000)))) A c x _ (fun A c y W' hb hC hx => impl_AreTables_row (x.length : Int) W.heap.size A c y W' (pw_cell_below hb (by simp)) hC hx) (Kd.C_alloc HR.out _)).mono ?_; rw [HQ.out]; rintro e w' ⟨rfl, hb⟩)
    go_ret
    exact ⟨rfl, below_step (by repeat (first | exact Below.refl _ _ | apply below_alloc | apply pw_below_drewN)) hb⟩
  · rw [show (decide ((x.length : Int) = m) && !Q) = false from by simp [hm]]
    have b0 : ((x.length : Int) == m) = false := beq_eq_false_iff_ne.mpr hm
    have b1 : ((x.length : Int) != m) = true := bne_iff_ne.mpr hm
    clear hm
    go_enter Try.func56, Try.ntmps56
    go_wp2
    go_ret
    exact ⟨rfl, by repeat (first | exact Below.refl _ _ | apply below_alloc | apply pw_below_drewN)⟩
set_option maxHeartbeats 2000000 in
theorem impl_AreTables_ask (m : Int) (B : Nat) (A : Option Addr) (c : Nat) (x : List (List Int)) (W : World) (hc : W.cell? ⟨B, 0, none⟩ = some (.int .i64 m)) (hr : Kd.C (Kd.slice 2 (Kd.int .i64)) W A x.length x) (hx : x.length ≤ c) :
    Calls Try.prog 55 #[.slice A x.length c, .pointer (some ⟨B, 0, none⟩)] W fun e w' => e = .returned (.bool (!(isMat m x))) ∧ Below W.heap.size W w' := by
  have HR := Aside0.mk hr
  have HX := Aside0.mk hx
  clear hr hx
  go_enter Try.func55, Try.ntmps55
  go_wp2_with (go_at_call 56; refine (impl_AreTables_mat m A c x _ HR.out HX.out).mono ?_; rintro e w' ⟨rfl, hb⟩)
  go_ret
  exact ⟨rfl, hb⟩
theorem impl_AreTables_letters (d : Int) : impl_areLetters.f d = some (decide (1 ≤ d) && decide (d ≤ 3)) := by
  unfold impl_areLetters.f impl_within.f
  by_cases h : 1 ≤ d <;> simp [h]
/-- How many rows the first matrix has. -/
def dimOf (l : List (List (List Int))) : Int := ((l.getD 0 []).length : Int)
/-- Are these tables for the letters? -/
def impl_AreTables.f (a0 : Int) (l1 : List (List (List Int))) : Option Bool := some ((decide (1 ≤ a0) && decide (a0 ≤ 3)) && decide ((l1.length : Int) = a0) && (decide (1 ≤ dimOf l1) && decide (dimOf l1 ≤ 6)) && !(l1.any fun x => !(isMat (dimOf l1) x)))
set_option maxHeartbeats 4000000 in
theorem impl_AreTables.calls (a0 : Int) (A1 : Option Addr) (c1 : Nat) (l1 : List (List (List Int))) (r : Bool) (w : World) (hr1 : Kd.C (Kd.slice 44 (Kd.slice 2 (Kd.int .i64))) w A1 l1.length l1) (hc1 : l1.length ≤ c1) (h : impl_AreTables.f a0 l1 = some r) :
    Calls Try.prog 23 #[.int .i64 a0, .slice A1 l1.length c1] w fun e w' => e = .returned (.bool r) ∧ Below w.heap.size w w' := by
  have HR := Aside0.mk hr1
  have HA := Aside0.mk (impl_AreTables_letters a0)
  have hbig : l1.length ≤ 9223372036854775807 := Kd.C_max hr1
  obtain rfl := Option.some.inj h
  clear hr1 hc1 h
  have hd1 : (decide (1 ≤ a0) && decide (a0 ≤ 3)) = true → 1 ≤ a0 := by intro h; simp at h; omega
  generalize hL : (decide (1 ≤ a0) && decide (a0 ≤ 3)) = L at HA hd1
  clear hL
  have eg := enters_of Try.func55 (by kernel_rfl) rfl
  generalize hQ : (l1.any fun x => !(isMat (dimOf l1) x)) = Q
  have HQ := Aside0.mk hQ
  clear hQ
  cases L with
  | false =>
    clear hd1
    rw [show (false && decide ((l1.length : Int) = a0) && (decide (1 ≤ dimOf l1) && decide (dimOf l1 ≤ 6)) && !Q) = false from rfl]
    go_enter Try.func23, Try.ntmps23
    go_wp2_with (go_at_call 52; refine (impl_areLetters.calls a0 false _ HA.out).mono ?_; rintro e w' ⟨rfl, nd, rfl⟩)
    go_ret
    exact ⟨rfl, by repeat (first | exact Below.refl _ _ | apply below_alloc | apply pw_below_drewN)⟩
  | true =>
    have ha := hd1 rfl
    clear hd1
    by_cases hl : (l1.length : Int) = a0
    · subst hl
      have hp : 0 < l1.length := by omega
      clear ha
      obtain ⟨ad, B0, c0, e1, hcell, hc0, hC0⟩ := Hand.at_rows3 HR.out 0 (by omega) (by omega)
      cases e1
      have hdim : (Hand.rdR3 l1 0).length = (l1.getD 0 []).length := rfl
      rw [hdim] at hcell hc0 hC0
      have hbig0 := Kd.C_max hC0
      have hgd : dimOf l1 = ((l1.getD 0 []).length : Int) := rfl
      rw [hgd]
      have HGD := Aside0.mk hgd
      simp only [Int.toNat_zero] at hcell
      rw [show ad.add 0 = ad from by exact Addr.add_zero' ad] at hcell
      rw [show (true && decide ((l1.length : Int) = (l1.length : Int)) && (decide (1 ≤ ((l1.getD 0 []).length : Int)) && decide (((l1.getD 0 []).length : Int) ≤ 6)) && !Q) = ((decide (1 ≤ ((l1.getD 0 []).length : Int)) && decide (((l1.getD 0 []).length : Int) ≤ 6)) && !Q) from by simp]
      clear hgd hdim hC0 hc0
      generalize l1.getD 0 [] = x0 at *
      generalize hW : (decide (1 ≤ (x0.length : Int)) && decide ((x0.length : Int) ≤ 6)) = Wi
      have HW := Aside0.mk hW
      clear hW
      cases Wi with
      | false =>
        rw [show (false && !Q) = false from rfl]
        go_enter Try.func23, Try.ntmps23
        go_wp2_with (first | (go_at_call 52; refine (impl_areLetters.calls (l1.length : Int) true _ HA.out).mono ?_; rintro e w1 ⟨rfl, hd1⟩; have hcell1 := pw_cell_below hd1.below hcell; have HR1 := Aside0.mk (Kd.C_below HR.out hd1.below); have B1 := Aside0.mk hd1.below; clear hcell hd1) | (go_at_call 53; refine (Hand.within_calls (x0.length : Int) 1 6 _).mono ?_; rw [HW.out]; rintro e w' ⟨rfl, nd, rfl⟩))
        go_ret
        exact ⟨rfl, by repeat (first | exact B1.out | apply below_alloc | apply pw_below_drewN)⟩
      | true =>
        rw [show (true && !Q) = !Q from rfl]
        go_enter Try.func23, Try.ntmps23
        go_wp2_with (first | (go_at_call 52; refine (impl_areLetters.calls (l1.length : Int) true _ HA.out).mono ?_; rintro e w1 ⟨rfl, hd1⟩; have hcell1 := pw_cell_below hd1.below hcell; have HR1 := Aside0.mk (Kd.C_below HR.out hd1.below); have B1 := Aside0.mk hd1.below; clear hcell hd1) | (go_at_call 53; refine (Hand.within_calls (x0.length : Int) 1 6 _).mono ?_; rw [HW.out]; rintro e w' ⟨rfl, nd, rfl⟩) | (go_at_call 54; refine (Hand.containsFunc_rows3 55 #[.pointer (some ⟨w1.heap.size, 0, none⟩)] eg (fun x => !(isMat (x0.length : Int) x)) (some ad) c1 l1 _ (fun A c y W' hb hC hx => impl_AreTables_ask (x0.length : Int) w1.heap.size A c y W' (pw_cell_below hb (by simp)) hC hx) (by repeat (first | exact HR1.out | (with_reducible refine Kd.C_alloc ?_ _) | (with_reducible refine Kd.C_drewN ?_ _)))).mono ?_; rw [← HGD.out, HQ.out]; rintro e w' ⟨rfl, hb⟩))
        go_ret
        exact ⟨rfl, below_step (by repeat (first | exact B1.out | apply below_alloc | apply pw_below_drewN)) hb⟩
    · rw [show (true && decide ((l1.length : Int) = a0) && (decide (1 ≤ dimOf l1) && decide (dimOf l1 ≤ 6)) && !Q) = false from by simp [hl]]
      have b0 : ((l1.length : Int) == a0) = false := beq_eq_false_iff_ne.mpr hl
      have b1 : ((l1.length : Int) != a0) = true := bne_iff_ne.mpr hl
      clear hl
      go_enter Try.func23, Try.ntmps23
      go_wp2_with (go_at_call 52; refine (impl_areLetters.calls a0 true _ HA.out).mono ?_; rintro e w' ⟨rfl, nd, rfl⟩)
      go_ret
      exact ⟨rfl, by repeat (first | exact Below.refl _ _ | apply below_alloc | apply pw_below_drewN)⟩


/-! ### slices_Clone_int64_int64: function 87, by hand -/
/-- A copy of a list. -/
def slices_Clone_int64_int64.f (l0 : List Int) : Option (List Int) := if l0.length * 8 ≤ 140737488355328 then some l0 else none
set_option maxHeartbeats 2000000 in
theorem slices_Clone_int64_int64.calls (A0 : Option Addr) (c0 : Nat) (l0 : List Int) (r : List Int) (w : World) (hr0 : Kd.C (Kd.int .i64) w A0 l0.length l0) (hc0 : l0.length ≤ c0) (h : slices_Clone_int64_int64.f l0 = some r) :
    Calls Try.prog 87 #[.slice A0 l0.length c0] w fun e w' => ∃ v0_ : Value, e = .returned (v0_) ∧ Kd.R (Kd.int .i64) 2 w' w.heap.size (fun _ => True) v0_ r ∧ Below w.heap.size w w' := by
  have HR0 := Aside0.mk hr0
  unfold slices_Clone_int64_int64.f at h
  split at h
  next hl =>
    obtain rfl := Option.some.inj h
    clear h hr0 hc0
    have HL := Aside0.mk hl
    clear hl
    cases A0 with
    | none =>
      have hn : l0 = [] := by
        rcases Nat.eq_zero_or_pos l0.length with h0 | h0
        · exact List.eq_nil_of_length_eq_zero h0
        · obtain ⟨ad, e1, _⟩ := Kd.at_int HR0.out 0 (by omega) (by omega)
          cases e1
      subst hn
      have hnil : ∀ W : World, (binOp .eql 44 (.slice none 0 c0) (.slice none 0 0)).run Try.prog W = .ok (.bool true) W := fun W => Lib.run_eql_slice_nil (P := Try.prog) W 44 2 none 0 c0 0 0 Try.underlying44
      go_enter Try.func87, Try.ntmps87
      go_wp2
      go_ret
      exact ⟨_, rfl, Kd.R_nil _ _ _ _ _, Below.refl _ _⟩
    | some ad =>
      have hnil : ∀ W : World, (binOp .eql 44 (.slice (some ad) l0.length c0) (.slice none 0 0)).run Try.prog W = .ok (.bool false) W := fun W => Lib.run_eql_slice_nil (P := Try.prog) W 44 2 (some ad) l0.length c0 0 0 Try.underlying44
      go_enter Try.func87, Try.ntmps87
      go_wp2_with (first | ((with_reducible refine gate_dst (N := 5) rfl ?_); refine Kd.R_lit (Kd.int .i64) _ 2 ?hg (N := 5) ?hd (xs := ([] : List Int)) (inner := []) (ok := fun _ => True) (okp := fun _ => True) ?hr ?hp (fun _ hk => hk) trivial (Below.refl _ _) (Nat.le_refl _) (by simp) ?_; (case hd => rfl); (case hg => rfl); (case hr => first | (go_simp; done) | (go_simp; rfl)); (case hp => exact (Reps.none _ _)); intro v5 w2 ho3 hb hg_ hnew_; clear hg_ hnew_; have HO5 := Aside0.mk ho3; have HB := Aside0.mk hb; clear ho3 hb) | ((with_reducible refine gate_builtin (b := .append) (xs := #[.tmp 5, .tmp 6]) rfl ?_); at_builtin; refine Kd.R_append_rows (Kd.int .i64) (w0 := w) w.heap.size rfl (.tmp 5) (.tmp 6) 44 2 (.int .i64 0) 8 rfl Try.underlying44 info2 rfl (by decide) (by omega) v5 [] l0 _ _ _ (fun _ => True) (fun _ => False) rfl rfl ?aO ?aR (fun _ _ h => h) (fun _ h => h.elim) ?aF ?aB ?aS ?aL ?_; (case aR => exact Kd.C_below HR0.out HB.out); (case aB => exact HB.out); (case aF => exact (fun _ _ => trivial)); (case aO => exact HO5.out); (case aS => exact HB.out.size); (case aL => have := HL.out; simp only [List.length_nil]; omega); intro v7 w7 ho hb hg hat; have HO7 := Aside0.mk ho; have HB7 := Aside0.mk hb; clear ho hb hg hat))
      go_ret
      exact ⟨_, rfl, by simpa using HO7.out, HB7.out⟩
  next => exact absurd h (by simp)


/-! ### impl_added: function 116 -/
def impl_added.l0 : Nat → List Int → List Int → Int → Int → Option (List Int)
  | 0, _, _, _, _ => none
  | k + 1, x5, x10, x11, x12 => if x12 < x11 then (if 0 ≤ x12 then (if x12 < (x10.length : Int) then (if x12 < (x5.length : Int) then (impl_added.l0 k (x5.set (x12 : Int).toNat (wrap64 ((rd x5 x12) + (rd x10 x12)))) x10 x11 (wrap64 (x12 + 1))) else (none)) else (none)) else (none)) else (some x5)
def impl_added.f (k : Nat) (l0 : List Int) (l1 : List Int) : Option (List Int) := (slices_Clone_int64_int64.f l0).bind fun t213 => (impl_added.l0 k t213 l1 (l1.length : Int) 0)
theorem impl_added.mono_l : ∀ k, (∀ y0 y1 y2 y3, LeO (impl_added.l0 k y0 y1 y2 y3) (impl_added.l0 (k + 1) y0 y1 y2 y3))
  | 0 => fun _ _ _ _ r h => by simp [impl_added.l0] at h
  | k + 1 => by
    have ih0 := impl_added.mono_l k
    · intro y0 y1 y2 y3
      unfold impl_added.l0
      repeat' first
      | (with_reducible exact ih0 _ _ _ _)
      | (with_reducible exact LeO.refl _)
      | (with_reducible exact LeO.none _)
      | (with_reducible refine LeO.ite ?_ ?_)
      | (with_reducible refine LeO.bind ?_ (fun _ => ?_))
      | exact ih0 _ _ _ _
      | exact LeO.none _
      | refine LeO.ite ?_ ?_
      | refine LeO.bind ?_ (fun _ => ?_)
theorem impl_added.mono : ∀ a0 a1 k, LeO (impl_added.f k a0 a1) (impl_added.f (k + 1) a0 a1) := by
  intro a0 a1 k
  have ih0 := impl_added.mono_l k
  unfold impl_added.f
  repeat' first
      | (with_reducible exact ih0 _ _ _ _)
      | (with_reducible exact LeO.refl _)
      | (with_reducible exact LeO.none _)
      | (with_reducible refine LeO.ite ?_ ?_)
      | (with_reducible refine LeO.bind ?_ (fun _ => ?_))
      | exact ih0 _ _ _ _
      | exact LeO.none _
      | refine LeO.ite ?_ ?_
      | refine LeO.bind ?_ (fun _ => ?_)
set_option maxHeartbeats 8000000 in
set_option maxRecDepth 100000 in
theorem impl_added.calls (k : Nat) (A0 : Option Addr) (c0 : Nat) (l0 : List Int) (A1 : Option Addr) (c1 : Nat) (l1 : List Int) (r : List Int) (w : World) (hr0 : Kd.C (Kd.int .i64) w A0 l0.length l0) (hc0 : l0.length ≤ c0) (hr1 : Kd.C (Kd.int .i64) w A1 l1.length l1) (hc1 : l1.length ≤ c1) (h : impl_added.f k l0 l1 = some r) :
    Calls Try.prog 116 #[.slice A0 l0.length c0, .slice A1 l1.length c1] w fun e w' => ∃ v0_ : Value, e = .returned (v0_) ∧ Kd.R (Kd.int .i64) 2 w' w.heap.size (fun _ => True) v0_ r ∧ Below w.heap.size w w' := by
  have HR0 := Aside0.mk hr0
  have HC0 := Aside0.mk hc0
  clear hr0 hc0
  have HR1 := Aside0.mk hr1
  have HC1 := Aside0.mk hc1
  clear hr1 hc1
  have HB := Aside0.mk (Below.refl w.heap.size w)
  have H : ((slices_Clone_int64_int64.f l0).bind fun t213 => (impl_added.l0 k t213 l1 (l1.length : Int) 0)) = some r := h
  clear h
  replace H := Option.bind_eq_some_iff.mp H
  obtain ⟨t213, A30, H⟩ := H
  replace H : (impl_added.l0 k t213 l1 (l1.length : Int) 0) = some r := H
  have A3 := Aside0.mk A30
  clear A30
  have H' := Aside0.mk H
  clear H
  go_enter Try.func116, Try.ntmps116
  go_wp2_with (first | ((with_reducible refine gate_callee (f := 87) rfl ?_); refine goesL_ (some 9) rfl rfl Try.func87 (by kernel_rfl) rfl #[.slice A0 l0.length c0] rfl (by (try simp only [List.map_toArray, List.map_cons, List.map_nil]); first | done | rfl | (simp only [List.length_drop, List.length_take]; rfl)) ?_; (with_reducible refine (slices_Clone_int64_int64.calls _ _ l0 t213 _ ?side1 ?side2 A3.out).mono ?_); (case side1 => repeat (first | exact HR0.out | (with_reducible refine Kd.C_alloc ?_ _) | (with_reducible refine Kd.C_drewN ?_ _) | (with_reducible refine Kd.C_drew ?_))); (case side2 => exact HC0.out); rintro e w4 ⟨v214, rfl, ho0, hb⟩; refine ⟨_, rfl, ?_⟩; have n0_ := Aside0.mk (Kd.R_lower ho0 (below_size (by repeat (first | (with_reducible first | exact HB.out | apply below_alloc | apply pw_below_drewN | apply below_drew1) | exact HB.out)))); have n1_ := Aside0.mk (below_step (by repeat (first | (with_reducible first | exact HB.out | apply below_alloc | apply pw_below_drewN | apply below_drew1) | exact HB.out)) hb); clear HB; have HO215 := n0_; have HB := n1_; clear n0_ n1_; (try clear hb); (try clear hb2); (try clear hk); (try clear hi); (try clear ho0)))
  go_loopg [12] k (fun kq v12 w' => ∃ (x5_1 : List Int) (x12_1 : Int), v12 = .int .i64 x12_1 ∧ Aside0 (impl_added.l0 kq x5_1 l1 (l1.length : Int) x12_1 = some r) ∧ Aside0 (kq ≤ k) ∧ Aside0 (Kd.R (Kd.int .i64) 2 w' w.heap.size (fun _ => True) v214 x5_1) ∧ Aside0 (Below w.heap.size w w'))
  case atStart => exact ⟨(t213), (0), (by first | rfl | (simp; done) | (simp [*]; done)), H', ⟨Nat.le_refl _⟩, ⟨by (with_reducible repeat (first | apply Kd.R_alloc | apply Kd.R_drewN | apply Kd.R_drew)); exact HO215.out⟩, ⟨by repeat (first | (with_reducible first | exact HB.out | apply below_alloc | apply pw_below_drewN | apply below_drew1) | exact HB.out)⟩⟩
  case round =>
    clear H'
    try clear c1
    try clear p2
    obtain ⟨x5_1, x12_1, rfl, HA, HK1, HO_5, HB⟩ := hrel
    cases gk with
    | zero => exact absurd HA.out (by simp [impl_added.l0])
    | succ k1 =>
      have H := HA.out
      clear HA
      simp only [impl_added.l0] at H
      by_cases c5 : x12_1 < (l1.length : Int)
      · rw [if_pos c5] at H
        have c5b0 : decide (x12_1 < (l1.length : Int)) = true := decide_eq_true c5
        clear c5
        by_cases c6 : 0 ≤ x12_1
        · rw [if_pos c6] at H
          have c6b0 : decide (0 ≤ x12_1) = true := decide_eq_true c6
          clear c6
          by_cases c7 : x12_1 < (l1.length : Int)
          · rw [if_pos c7] at H
            have c7b0 : decide (x12_1 < (l1.length : Int)) = true := decide_eq_true c7
            clear c7
            by_cases c8 : x12_1 < (x5_1.length : Int)
            · rw [if_pos c8] at H
              have c8b0 : decide (x12_1 < (x5_1.length : Int)) = true := decide_eq_true c8
              clear c8
              obtain ⟨y218, hy218⟩ : ∃ y_ : List Int, y_ = (x5_1.set (x12_1 : Int).toNat (wrap64 ((rd x5_1 x12_1) + (rd l1 x12_1)))) := ⟨_, rfl⟩
              replace H : (impl_added.l0 k1 y218 l1 (l1.length : Int) (wrap64 (x12_1 + 1))) = some r := by first | (rw [hy218]; with_reducible exact H) | (have H2_ := (Option.bind_some _ _).symm.trans H; rw [hy218]; with_reducible exact H2_) | (have H2_ := (Option.bind_some _ _).symm.trans H; with_reducible exact H2_) | with_reducible exact H | (rw [hy218]; exact H) | exact H
              have Ny218 := Aside0.mk hy218
              clear hy218
              have H' := Aside0.mk H
              clear H
              have p216 : 0 ≤ (x12_1 : Int) := of_decide_eq_true (by first | (with_reducible assumption) | assumption)
              have q216 : x12_1 < (l1.length : Int) := of_decide_eq_true (by first | (with_reducible assumption) | assumption)
              obtain ⟨ad216, e216, hx216_0⟩ := Kd.at_int HR1.out x12_1 p216 q216
              cases e216
              replace hx216_0 := (HB.out.cell (World.block_lt_of_cell? w _ hx216_0)).trans hx216_0
              replace p216 := eq_true p216
              replace q216 := eq_true q216
              obtain ⟨Ao10, co10, eo10⟩ := Kd.R_slice HO_5.out
              subst eo10
              have p217 : 0 ≤ (x12_1 : Int) := of_decide_eq_true (by first | (with_reducible assumption) | assumption)
              have q217 : x12_1 < (x5_1.length : Int) := of_decide_eq_true (by first | (with_reducible assumption) | assumption)
              obtain ⟨ad217, e217, hx217_0⟩ := Kd.at_int (Kd.R_reads' HO_5.out).2.2 x12_1 p217 q217
              cases e217
              replace p217 := eq_true p217
              replace q217 := eq_true q217
              have p9 : 0 ≤ (x12_1 : Int) := of_decide_eq_true (by first | (with_reducible assumption) | assumption)
              have q9 : (x12_1 : Int) < ((x5_1.length : Int) : Int) := of_decide_eq_true (by first | (with_reducible assumption) | assumption)
              obtain ⟨go9, co9, eo9, gb9, gl9, cl9, HG9⟩ := Kd.R_form HO_5.out (by omega)
              (first | cases eo9 | (injection eo9 with ea_ en_ ec_; (first | subst ea_ | (injection ea_ with ea_; subst ea_)); subst ec_; clear en_))
              have GB9 := Aside0.mk gb9
              have GG9 := Aside0.mk HG9
              clear gb9 gl9 HG9
              (first | simp only [add_plain] at hx217_0 | skip)
              obtain ⟨hx9_0, hf9_0⟩ := Kd.R_celln 0 HO_5.out (x12_1 : Int) p9 q9
              replace p9 := eq_true p9
              replace q9 := eq_true q9
              have HP11 := Kd.R_putg HO_5.out (x12_1 : Int) (wrap64 ((rd x5_1 x12_1) + (rd l1 x12_1)))
              go_wp2_with (first | ((with_reducible refine gate_store (t := 2) (p := 23) rfl ?_); refine store_event (t := 2) (p := 23) (v := ?vo_w12) (w1 := (wr.setCell ⟨go9, (x12_1 : Int).toNat, none⟩ (.int .i64 (wrap64 ((rd x5_1 x12_1) + (rd l1 x12_1)))))) ?hg ?ho ?hn ?hr ?_; (case ho => rfl); (case hg => rfl); (case hn => rfl); (case hr => first | (go_simp; done) | (go_simp; rfl)); intro w12 hw; have hg : wr.grownBy w12 (some go9) := (by rw [hw]; exact HP11.2); have hp_ : Kd.R (Kd.int .i64) 2 w12 w.heap.size (fun _ => True) (.slice (some ⟨go9, 0, none⟩) x5_1.length co10) y218 := (by rw [hw, Ny218.out]; exact HP11.1); clear HP11; have n0_ := Aside0.mk (hp_); have n1_ := Aside0.mk ((by rw [hw]; exact below_set (HB.out) GB9.out : Below w.heap.size w w12)); clear HO_5; clear HB; have HO_5 := n0_; have HB := n1_; clear n0_ n1_; clear hg hw hp_))
              go_roundg k1
              case measure => have := HK1.out; omega
              case rel => exact ⟨(y218), (wrap64 (x12_1 + 1)), (by first | rfl | (simp; done) | (simp [*]; done)), H', ⟨by have := HK1.out; omega⟩, ⟨by (with_reducible repeat (first | apply Kd.R_alloc | apply Kd.R_drewN | apply Kd.R_drew)); exact HO_5.out⟩, ⟨by repeat (first | (with_reducible first | exact HB.out | apply below_alloc | apply pw_below_drewN | apply below_drew1) | exact HB.out)⟩⟩
            · rw [if_neg c8] at H
              exact absurd H (by simp)
          · rw [if_neg c7] at H
            exact absurd H (by simp)
        · rw [if_neg c6] at H
          exact absurd H (by simp)
      · rw [if_neg c5] at H
        have c5b0 : decide (x12_1 < (l1.length : Int)) = false := decide_eq_false c5
        clear c5
        obtain rfl := Option.some.inj H
        go_wp2
        go_ret
        exact ⟨_, by first | rfl | (simp [errW_none, errW_some] <;> rfl) | (simp [*, errW_none, errW_some] <;> rfl), by (with_reducible repeat (first | apply Kd.R_alloc | apply Kd.R_drewN | apply Kd.R_drew)); exact HO_5.out, by repeat (first | (with_reducible first | exact HB.out | apply below_alloc | apply pw_below_drewN | apply below_drew1) | exact HB.out)⟩


end Go.Proofs.Ytbpipmkgclkhgaa.P
