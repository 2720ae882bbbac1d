/- What a call of each Go function named below comes to is what the plain Lean function beside it says. Made by a program of this session out of the print of the translation; Lean checks it. -/
import Derived.Test.YtkbneilobaehkaaPx0
import Derived.Test.YtkbneilobaehkaaPx4
import Derived.Test.YtkbneilobaehkaaPx12
import Derived.Test.YtkbneilobaehkaaPx13
namespace Go.Proofs.Ytkbneilobaehkaa.P
open Go.RowKit Go.Proofs.YtkbneilobaehkaaW.PrintWords Go.Proofs.YtkbneilobaehkaaW.PrintLast Go.Proofs.YtkbneilobaehkaaW.PrintMore
attribute [local go_sem] max2_int min2_int max_two min_two max_three min_three max_four min_four   -- for this text's walks alone
set_option linter.unusedVariables false
set_option linter.unusedSimpArgs false


/-! ### impl_DoTablesCommute: function 16 -/
mutual
def impl_DoTablesCommute.l0 : Nat → List (List (List Int)) → List (List (List Int)) → Int → Int → Option (Bool × Int)
 | 0, _, _, _, _ => none
 | k + 1, x1, x14, x15, x16 => if x16 < x15 then (if 0 ≤ x16 then (if x16 < (x14.length : Int) then (impl_DoTablesCommute.l1 k x1 (rd_L4 x14 x16) x14 x15 x16 x1 (x1.length : Int) 0) else (none)) else (none)) else (some (true, 0))
def impl_DoTablesCommute.l1 : Nat → List (List (List Int)) → List (List Int) → List (List (List Int)) → Int → Int → List (List (List Int)) → Int → Int → Option (Bool × Int)
 | 0, _, _, _, _, _, _, _, _ => none
 | k + 1, x1, x7, x14, x15, x16, x20, x21, x22 => if x22 < x21 then (if 0 ≤ x22 then (if x22 < (x20.length : Int) then ((impl_turn.f k x7 (rd_L4 x20 x22)).bind fun t407 => ((impl_isNothing.f t407).bind fun t410 => (if t410 = true then (impl_DoTablesCommute.l1 k x1 x7 x14 x15 x16 x20 x21 (wrap64 (x22 + 1))) else (some (false, 0))))) else (none)) else (none)) else (impl_DoTablesCommute.l0 k x1 x14 x15 (wrap64 (x16 + 1)))
end
def impl_DoTablesCommute.f (k : Nat) (a0 : Int) (l1 : List (List (List Int))) : Option (Bool × Int) := (impl_AreTables.f a0 l1).bind fun t404 => (if t404 = true then (impl_DoTablesCommute.l0 k l1 l1 (l1.length : Int) 0) else (some (false, 1)))
theorem impl_DoTablesCommute.mono_l : ∀ k, (∀ y0 y1 y2 y3, LeO (impl_DoTablesCommute.l0 k y0 y1 y2 y3) (impl_DoTablesCommute.l0 (k + 1) y0 y1 y2 y3)) ∧ (∀ y0 y1 y2 y3 y4 y5 y6 y7, LeO (impl_DoTablesCommute.l1 k y0 y1 y2 y3 y4 y5 y6 y7) (impl_DoTablesCommute.l1 (k + 1) y0 y1 y2 y3 y4 y5 y6 y7))
 | 0 => ⟨fun _ _ _ _ r h => by simp [impl_DoTablesCommute.l0] at h, fun _ _ _ _ _ _ _ _ r h => by simp [impl_DoTablesCommute.l1] at h⟩
 | k + 1 => by
  obtain ⟨ih0, ih1⟩ := impl_DoTablesCommute.mono_l k
  refine ⟨?_, ?_⟩
  ·intro y0 y1 y2 y3
   unfold impl_DoTablesCommute.l0
   repeat' first
   | (with_reducible exact ih0 _ _ _ _)
   | (with_reducible exact ih1 _ _ _ _ _ _ _ _)
   | (with_reducible exact impl_turn.mono _ _ _)
   | (with_reducible exact LeO.refl _)
   | (with_reducible exact LeO.none _)
   | (with_reducible refine LeO.ite ?_ ?_)
   | (with_reducible refine LeO.bind ?_ (fun _ => ?_))
  ·intro y0 y1 y2 y3 y4 y5 y6 y7
   unfold impl_DoTablesCommute.l1
   repeat' first
   | (with_reducible exact ih0 _ _ _ _)
   | (with_reducible exact ih1 _ _ _ _ _ _ _ _)
   | (with_reducible exact impl_turn.mono _ _ _)
   | (with_reducible exact LeO.refl _)
   | (with_reducible exact LeO.none _)
   | (with_reducible refine LeO.ite ?_ ?_)
   | (with_reducible refine LeO.bind ?_ (fun _ => ?_))
theorem impl_DoTablesCommute.mono : ∀ a0 a1 k, LeO (impl_DoTablesCommute.f k a0 a1) (impl_DoTablesCommute.f (k + 1) a0 a1) := by
 intro a0 a1 k
 obtain ⟨ih0, ih1⟩ := impl_DoTablesCommute.mono_l k
 unfold impl_DoTablesCommute.f
 repeat' first
  | (with_reducible exact ih0 _ _ _ _)
  | (with_reducible exact ih1 _ _ _ _ _ _ _ _)
  | (with_reducible exact impl_turn.mono _ _ _)
  | (with_reducible exact LeO.refl _)
  | (with_reducible exact LeO.none _)
  | (with_reducible refine LeO.ite ?_ ?_)
  | (with_reducible refine LeO.bind ?_ (fun _ => ?_))
set_option maxHeartbeats 8000000 in
set_option maxRecDepth 100000 in
theorem impl_DoTablesCommute.calls (k : Nat) (a0 : Int) (A1 : Option Addr) (c1 : Nat) (l1 : List (List (List Int))) (r1 : Bool) (r2 : Int) (w : World) (hr1 : Kd.C (Kd.slice 45 (Kd.slice 2 (Kd.int .i64))) w A1 l1.length l1) (hc1 : l1.length ≤ c1) (h : impl_DoTablesCommute.f k a0 l1 = some (r1, r2)) :
 Calls Try.prog 16 #[.int .i64 a0, .slice A1 l1.length c1] w fun e w' => e = .returned (.tuple #[.bool r1, .int .i64 r2]) ∧ Below w.heap.size w w' := by
 have HR1 := zA hr1
 have HC1 := zA hc1
 clear hr1 hc1
 have HB := zA (Below.refl w.heap.size w)
 have H : ((impl_AreTables.f a0 l1).bind fun t404 => (if t404 = true then (impl_DoTablesCommute.l0 k l1 l1 (l1.length : Int) 0) else (some (false, 1)))) = some (r1, r2) := h
 clear h
 replace H := Option.bind_eq_some_iff.mp H
 obtain ⟨t404, A30, H⟩ := H
 replace H : (if t404 = true then (impl_DoTablesCommute.l0 k l1 l1 (l1.length : Int) 0) else (some (false, 1))) = some (r1, r2) := H
 have A3 := zA A30
 clear A30
 by_cases c4 : t404 = true
 ·subst c4
  have H1 : (impl_DoTablesCommute.l0 k l1 l1 (l1.length : Int) 0) = some (r1, r2) := by rw [if_pos rfl] at H; exact H
  clear H
  have H := H1
  clear H1
  have H' := zA H
  clear H
  go_enter Try.func16, Try.ntmps16
  go_wp2_with (first | ((with_reducible refine gate_callee (f := 11) rfl ?_); refine goesL_ (some 12) rfl rfl Try.func11 (by kernel_rfl) rfl #[.int .i64 a0, .slice A1 l1.length c1] rfl zM ?_; (with_reducible refine (impl_AreTables.calls a0 _ _ l1 true _ ?side1 ?side2 A3.out).mono ?_); (case side1 => repeat (exact HR1.out)); (case side2 => exact HC1.out); rintro e w5 ⟨rfl, hb⟩; refine ⟨_, rfl, ?_⟩; replace HB := zA (below_step zB hb); (try clear hb); (try clear hb2); (try clear hk); (try clear hi)))
  go_loopg [16] k (fun kq v16 w' => ∃ (x16_1 : Int), v16 = .int .i64 x16_1 ∧ Aside0 (impl_DoTablesCommute.l0 kq l1 l1 (l1.length : Int) x16_1 = some (r1, r2)) ∧ Aside0 (kq ≤ k) ∧ Aside0 (Below w.heap.size w w'))
  case atStart => exact ⟨(0), (by rfl), H', ⟨Nat.le_refl _⟩, ⟨zB⟩⟩
  case round =>
   clear H'
   obtain ⟨x16_1, rfl, HA, HK1, HB⟩ := hrel
   cases gk with
   | zero => exact absurd HA.out (by simp [impl_DoTablesCommute.l0])
   | succ k1 =>
    have H := HA.out
    clear HA
    simp only [impl_DoTablesCommute.l0] at H
    by_cases c6 : x16_1 < (l1.length : Int)
    ·rw [if_pos c6] at H
     have c6b0 : decide (x16_1 < (l1.length : Int)) = true := decide_eq_true c6
     clear c6
     by_cases c7 : 0 ≤ x16_1
     ·rw [if_pos c7] at H
      have c7b0 : decide (0 ≤ x16_1) = true := decide_eq_true c7
      clear c7
      by_cases c8 : x16_1 < (l1.length : Int)
      ·rw [if_pos c8] at H
       have c8b0 : decide (x16_1 < (l1.length : Int)) = true := decide_eq_true c8
       clear c8
       have H' := zA H
       clear H
       have p405 : 0 ≤ (x16_1 : Int) := zD
       have q405 : x16_1 < (l1.length : Int) := zD
       obtain ⟨ad405, A405_0, c405_0, e405, hx405_0, hl405_0, hi405_0⟩ := at_L4 HR1.out x16_1 p405 q405
       cases e405
       replace hx405_0 := zH HB hx405_0
       have HR405_0 := zA hi405_0
       have HC405_0 := zA hl405_0
       clear hi405_0 hl405_0
       replace p405 := eq_true p405
       replace q405 := eq_true q405
       go_wp2
       go_loopg [22] k1 (fun kq v22 w' => ∃ (x22_2 : Int), v22 = .int .i64 x22_2 ∧ Aside0 (impl_DoTablesCommute.l1 kq l1 (rd_L4 l1 x16_1) l1 (l1.length : Int) x16_1 l1 (l1.length : Int) x22_2 = some (r1, r2)) ∧ Aside0 (kq ≤ k1) ∧ Aside0 (Below w.heap.size w w'))
       case atStart => exact ⟨(0), (by rfl), H', ⟨Nat.le_refl _⟩, ⟨zB⟩⟩
       case round =>
        clear H'
        obtain ⟨x22_2, rfl, HA, HK2, HB⟩ := hrel
        cases gk with
        | zero => exact absurd HA.out (by simp [impl_DoTablesCommute.l1])
        | succ k2 =>
         have H := HA.out
         clear HA
         simp only [impl_DoTablesCommute.l1] at H
         by_cases c9 : x22_2 < (l1.length : Int)
         ·rw [if_pos c9] at H
          have c9b0 : decide (x22_2 < (l1.length : Int)) = true := decide_eq_true c9
          clear c9
          by_cases c10 : 0 ≤ x22_2
          ·rw [if_pos c10] at H
           have c10b0 : decide (0 ≤ x22_2) = true := decide_eq_true c10
           clear c10
           by_cases c11 : x22_2 < (l1.length : Int)
           ·rw [if_pos c11] at H
            have c11b0 : decide (x22_2 < (l1.length : Int)) = true := decide_eq_true c11
            clear c11
            replace H := Option.bind_eq_some_iff.mp H
            obtain ⟨t407, A120, H⟩ := H
            replace H : ((impl_isNothing.f t407).bind fun t410 => (if t410 = true then (impl_DoTablesCommute.l1 k2 l1 (rd_L4 l1 x16_1) l1 (l1.length : Int) x16_1 l1 (l1.length : Int) (wrap64 (x22_2 + 1))) else (some (false, 0)))) = some (r1, r2) := H
            have A12 := zA A120
            clear A120
            replace H := Option.bind_eq_some_iff.mp H
            obtain ⟨t410, A130, H⟩ := H
            replace H : (if t410 = true then (impl_DoTablesCommute.l1 k2 l1 (rd_L4 l1 x16_1) l1 (l1.length : Int) x16_1 l1 (l1.length : Int) (wrap64 (x22_2 + 1))) else (some (false, 0))) = some (r1, r2) := H
            have A13 := zA A130
            clear A130
            by_cases c14 : t410 = true
            ·subst c14
             have H1 : (impl_DoTablesCommute.l1 k2 l1 (rd_L4 l1 x16_1) l1 (l1.length : Int) x16_1 l1 (l1.length : Int) (wrap64 (x22_2 + 1))) = some (r1, r2) := by rw [if_pos rfl] at H; exact H
             clear H
             have H := H1
             clear H1
             have H' := zA H
             clear H
             have p406 : 0 ≤ (x22_2 : Int) := zD
             have q406 : x22_2 < (l1.length : Int) := zD
             obtain ⟨ad406, A406_0, c406_0, e406, hx406_0, hl406_0, hi406_0⟩ := at_L4 HR1.out x22_2 p406 q406
             obtain rfl : ad405 = ad406 := (by injection e406)
             replace hx406_0 := zH HB hx406_0
             have HR406_0 := zA hi406_0
             have HC406_0 := zA hl406_0
             clear hi406_0 hl406_0
             replace p406 := eq_true p406
             replace q406 := eq_true q406
             go_wp2_with (first | ((with_reducible refine gate_callee (f := 63) rfl ?_); refine goesL_ (some 28) rfl rfl Try.func63 (by kernel_rfl) rfl #[.slice A405_0 (rd_L4 l1 x16_1).length c405_0, .slice A406_0 (rd_L4 l1 x22_2).length c406_0] rfl zM ?_; (with_reducible refine (impl_turn.calls k2 _ _ (rd_L4 l1 x16_1) _ _ (rd_L4 l1 x22_2) t407 _ ?side1 ?side2 ?side3 ?side4 A12.out).mono ?_); (case side1 => repeat (exact (Kd.C_below HR405_0.out HB.out))); (case side2 => exact HC405_0.out); (case side3 => repeat (exact (Kd.C_below HR406_0.out HB.out))); (case side4 => exact HC406_0.out); rintro e w15 ⟨v408, rfl, ho0, hb⟩; refine ⟨_, rfl, ?_⟩; have HO409 := zA (Kd.N_lower (Kd.N_mono (ok' := fun k_ => True) ho0 (fun k_ hk_ => trivial)) (below_size zB)); replace HB := zA (below_step zB hb); (try clear hb); (try clear hb2); (try clear hk); (try clear hi); (try clear ho0); obtain ⟨Ao16, co16, eo16⟩ := Kd.N_slice HO409.out; subst eo16) | ((with_reducible refine gate_callee (f := 60) rfl ?_); refine goesL_ (some 29) rfl rfl Try.func60 (by kernel_rfl) rfl #[.slice Ao16 t407.length co16] rfl zM ?_; (with_reducible refine (impl_isNothing.calls _ _ t407 true _ ?side1 ?side2 A13.out).mono ?_); (case side1 => repeat (exact (Kd.N_reads' HO409.out).2.2)); (case side2 => exact (Kd.N_reads' HO409.out).2.1); rintro e w17 ⟨rfl, hb⟩; refine ⟨_, rfl, ?_⟩; replace HO409 := zA (Kd.N_below (by exact HO409.out) hb); replace HB := zA (below_step zB hb); (try clear hb); (try clear hb2); (try clear hk); (try clear hi)))
             go_roundg k2
             case measure => have := HK1.out; have := HK2.out; omega
             case rel => exact ⟨(wrap64 (x22_2 + 1)), (by rfl), H', ⟨by have := HK1.out; have := HK2.out; omega⟩, ⟨zB⟩⟩
            ·replace c14 := Bool.eq_false_iff.mpr c14
             subst c14
             have H1 : (some (false, 0)) = some (r1, r2) := by rw [if_neg (show ¬ (false = true) by decide)] at H; exact H
             clear H
             have H := H1
             clear H1
             simp only [Option.some.injEq, Prod.mk.injEq] at H
             obtain ⟨rfl, rfl⟩ := H
             have p406 : 0 ≤ (x22_2 : Int) := zD
             have q406 : x22_2 < (l1.length : Int) := zD
             obtain ⟨ad406, A406_0, c406_0, e406, hx406_0, hl406_0, hi406_0⟩ := at_L4 HR1.out x22_2 p406 q406
             obtain rfl : ad405 = ad406 := (by injection e406)
             replace hx406_0 := zH HB hx406_0
             have HR406_0 := zA hi406_0
             have HC406_0 := zA hl406_0
             clear hi406_0 hl406_0
             replace p406 := eq_true p406
             replace q406 := eq_true q406
             go_wp2_with (first | ((with_reducible refine gate_callee (f := 63) rfl ?_); refine goesL_ (some 28) rfl rfl Try.func63 (by kernel_rfl) rfl #[.slice A405_0 (rd_L4 l1 x16_1).length c405_0, .slice A406_0 (rd_L4 l1 x22_2).length c406_0] rfl zM ?_; (with_reducible refine (impl_turn.calls k2 _ _ (rd_L4 l1 x16_1) _ _ (rd_L4 l1 x22_2) t407 _ ?side1 ?side2 ?side3 ?side4 A12.out).mono ?_); (case side1 => repeat (exact (Kd.C_below HR405_0.out HB.out))); (case side2 => exact HC405_0.out); (case side3 => repeat (exact (Kd.C_below HR406_0.out HB.out))); (case side4 => exact HC406_0.out); rintro e w18 ⟨v408, rfl, ho0, hb⟩; refine ⟨_, rfl, ?_⟩; have HO409 := zA (Kd.N_lower (Kd.N_mono (ok' := fun k_ => True) ho0 (fun k_ hk_ => trivial)) (below_size zB)); replace HB := zA (below_step zB hb); (try clear hb); (try clear hb2); (try clear hk); (try clear hi); (try clear ho0); obtain ⟨Ao19, co19, eo19⟩ := Kd.N_slice HO409.out; subst eo19) | ((with_reducible refine gate_callee (f := 60) rfl ?_); refine goesL_ (some 29) rfl rfl Try.func60 (by kernel_rfl) rfl #[.slice Ao19 t407.length co19] rfl zM ?_; (with_reducible refine (impl_isNothing.calls _ _ t407 false _ ?side1 ?side2 A13.out).mono ?_); (case side1 => repeat (exact (Kd.N_reads' HO409.out).2.2)); (case side2 => exact (Kd.N_reads' HO409.out).2.1); rintro e w20 ⟨rfl, hb⟩; refine ⟨_, rfl, ?_⟩; replace HO409 := zA (Kd.N_below (by exact HO409.out) hb); replace HB := zA (below_step zB hb); (try clear hb); (try clear hb2); (try clear hk); (try clear hi)))
             go_ret2
             exact ⟨by rfl, zB⟩
           ·rw [if_neg c11] at H
            exact absurd H (by simp)
          ·rw [if_neg c10] at H
           exact absurd H (by simp)
         ·rw [if_neg c9] at H
          have c9b0 : decide (x22_2 < (l1.length : Int)) = false := decide_eq_false c9
          clear c9
          have H' := zA H
          clear H
          go_wp2
          go_roundg k2
          case measure => have := HK1.out; have := HK2.out; omega
          case rel => exact ⟨(wrap64 (x16_1 + 1)), (by rfl), H', ⟨by have := HK1.out; have := HK2.out; omega⟩, ⟨zB⟩⟩
      ·rw [if_neg c8] at H
       exact absurd H (by simp)
     ·rw [if_neg c7] at H
      exact absurd H (by simp)
    ·rw [if_neg c6] at H
     have c6b0 : decide (x16_1 < (l1.length : Int)) = false := decide_eq_false c6
     clear c6
     simp only [Option.some.injEq, Prod.mk.injEq] at H
     obtain ⟨rfl, rfl⟩ := H
     go_wp2
     go_ret2
     exact ⟨by rfl, zB⟩
 ·replace c4 := Bool.eq_false_iff.mpr c4
  subst c4
  have H1 : (some (false, 1)) = some (r1, r2) := by rw [if_neg (show ¬ (false = true) by decide)] at H; exact H
  clear H
  have H := H1
  clear H1
  simp only [Option.some.injEq, Prod.mk.injEq] at H
  obtain ⟨rfl, rfl⟩ := H
  go_enter Try.func16, Try.ntmps16
  go_wp2_with (first | ((with_reducible refine gate_callee (f := 11) rfl ?_); refine goesL_ (some 12) rfl rfl Try.func11 (by kernel_rfl) rfl #[.int .i64 a0, .slice A1 l1.length c1] rfl zM ?_; (with_reducible refine (impl_AreTables.calls a0 _ _ l1 false _ ?side1 ?side2 A3.out).mono ?_); (case side1 => repeat (exact HR1.out)); (case side2 => exact HC1.out); rintro e w21 ⟨rfl, hb⟩; refine ⟨_, rfl, ?_⟩; replace HB := zA (below_step zB hb); (try clear hb); (try clear hb2); (try clear hk); (try clear hi)))
  go_ret2
  exact ⟨by rfl, zB⟩

end Go.Proofs.Ytkbneilobaehkaa.P
