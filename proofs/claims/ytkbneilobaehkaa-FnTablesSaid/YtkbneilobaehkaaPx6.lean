/- What a call of each Go function named below comes to is what the plain Lean function beside it says. Made by a program of this session out of the print of the translation; Lean checks it. -/
import Derived.Test.YtkbneilobaehkaaPx0
import Derived.Test.YtkbneilobaehkaaPx4
import Derived.Test.YtkbneilobaehkaaPx5
namespace Go.Proofs.Ytkbneilobaehkaa.P
open Go.RowKit Go.Proofs.YtkbneilobaehkaaW.PrintWords Go.Proofs.YtkbneilobaehkaaW.PrintLast Go.Proofs.YtkbneilobaehkaaW.PrintMore
attribute [local go_sem] max2_int min2_int max_two min_two max_three min_three max_four min_four   -- for this text's walks alone
set_option linter.unusedVariables false
set_option linter.unusedSimpArgs false


/-! ### impl_timesMatrix: function 87 -/
mutual
def impl_timesMatrix.l0 : Nat → List (List Int) → List (List Int) → List (List Int) → Int → Int → Option ((List (List Int)))
 | 0, _, _, _, _, _ => none
 | k + 1, x1, x5, x13, x14, x15 => if x15 < x14 then (if 0 ≤ x15 then (if x15 < (x13.length : Int) then (impl_timesMatrix.l1 k x1 x5 x15 x13 x14 x15 (rd_L3 x13 x15) ((rd_L3 x13 x15).length : Int) 0) else (none)) else (none)) else (some x5)
def impl_timesMatrix.l1 : Nat → List (List Int) → List (List Int) → Int → List (List Int) → Int → Int → List Int → Int → Int → Option ((List (List Int)))
 | 0, _, _, _, _, _, _, _, _, _ => none
 | k + 1, x1, x5, x6, x13, x14, x15, x20, x21, x22 => if x22 < x21 then (if 0 ≤ x22 then (if x22 < (x20.length : Int) then (if 0 ≤ x6 then (if x6 < (x5.length : Int) then (if x22 < (x1.length : Int) then ((impl_multiplied.f k (rd_L3 x1 x22) (rd x20 x22)).bind fun t233 => ((impl_added.f k (rd_L3 x5 x6) t233).bind fun t236 => (impl_timesMatrix.l1 k x1 (x5.set (x6 : Int).toNat t236) x6 x13 x14 x15 x20 x21 (wrap64 (x22 + 1))))) else (none)) else (none)) else (none)) else (none)) else (none)) else (impl_timesMatrix.l0 k x1 x5 x13 x14 (wrap64 (x15 + 1)))
end
def impl_timesMatrix.f (k : Nat) (l0 : List (List Int)) (l1 : List (List Int)) : Option ((List (List Int))) := (impl_square.f k (l0.length : Int)).bind fun t226 => (impl_timesMatrix.l0 k l1 t226 l0 (l0.length : Int) 0)
theorem impl_timesMatrix.mono_l : ∀ k, (∀ y0 y1 y2 y3 y4, LeO (impl_timesMatrix.l0 k y0 y1 y2 y3 y4) (impl_timesMatrix.l0 (k + 1) y0 y1 y2 y3 y4)) ∧ (∀ y0 y1 y2 y3 y4 y5 y6 y7 y8, LeO (impl_timesMatrix.l1 k y0 y1 y2 y3 y4 y5 y6 y7 y8) (impl_timesMatrix.l1 (k + 1) y0 y1 y2 y3 y4 y5 y6 y7 y8))
 | 0 => ⟨fun _ _ _ _ _ r h => by simp [impl_timesMatrix.l0] at h, fun _ _ _ _ _ _ _ _ _ r h => by simp [impl_timesMatrix.l1] at h⟩
 | k + 1 => by
  obtain ⟨ih0, ih1⟩ := impl_timesMatrix.mono_l k
  refine ⟨?_, ?_⟩
  ·intro y0 y1 y2 y3 y4
   unfold impl_timesMatrix.l0
   repeat' first
   | (with_reducible exact ih0 _ _ _ _ _)
   | (with_reducible exact ih1 _ _ _ _ _ _ _ _ _)
   | (with_reducible exact impl_added.mono _ _ _)
   | (with_reducible exact impl_multiplied.mono _ _ _)
   | (with_reducible exact impl_square.mono _ _)
   | (with_reducible exact LeO.refl _)
   | (with_reducible exact LeO.none _)
   | (with_reducible refine LeO.ite ?_ ?_)
   | (with_reducible refine LeO.bind ?_ (fun _ => ?_))
  ·intro y0 y1 y2 y3 y4 y5 y6 y7 y8
   unfold impl_timesMatrix.l1
   repeat' first
   | (with_reducible exact ih0 _ _ _ _ _)
   | (with_reducible exact ih1 _ _ _ _ _ _ _ _ _)
   | (with_reducible exact impl_added.mono _ _ _)
   | (with_reducible exact impl_multiplied.mono _ _ _)
   | (with_reducible exact impl_square.mono _ _)
   | (with_reducible exact LeO.refl _)
   | (with_reducible exact LeO.none _)
   | (with_reducible refine LeO.ite ?_ ?_)
   | (with_reducible refine LeO.bind ?_ (fun _ => ?_))
theorem impl_timesMatrix.mono : ∀ a0 a1 k, LeO (impl_timesMatrix.f k a0 a1) (impl_timesMatrix.f (k + 1) a0 a1) := by
 intro a0 a1 k
 obtain ⟨ih0, ih1⟩ := impl_timesMatrix.mono_l k
 unfold impl_timesMatrix.f
 repeat' first
  | (with_reducible exact ih0 _ _ _ _ _)
  | (with_reducible exact ih1 _ _ _ _ _ _ _ _ _)
  | (with_reducible exact impl_added.mono _ _ _)
  | (with_reducible exact impl_multiplied.mono _ _ _)
  | (with_reducible exact impl_square.mono _ _)
  | (with_reducible exact LeO.refl _)
  | (with_reducible exact LeO.none _)
  | (with_reducible refine LeO.ite ?_ ?_)
  | (with_reducible refine LeO.bind ?_ (fun _ => ?_))
def impl_timesMatrix.T8 : Bool × List (List Nat × List Nat) := (true, [([], []), ([], []), ([], []), ([], []), ([2, 3], [2, 3]), ([4], [4]), ([], []), ([], []), ([6, 7], [6, 7]), ([8], [8]), ([], []), ([9, 10], [9, 10]), ([5, 11, 11], [5, 11]), ([0, 1, 0, 1, 2, 3, 4, 5, 6, 7, 8, 9, 10, 11, 12], [0, 1]), ([13, 12, 12, 0, 1, 2, 3, 4, 5, 6, 7, 8, 9, 10, 11, 12], [12, 13])])
def impl_timesMatrix.B8 : List Nat := [0, 0, 0, 0, 12, 28, 0, 0, 192, 448, 0, 1984, 4092, 8191, 16383]
theorem impl_timesMatrix.tab8 : rtab .any (opsOf Try.f87 8) = impl_timesMatrix.T8 := by kernel_rfl
theorem impl_timesMatrix.bits8 : waitsOk impl_timesMatrix.T8.2 impl_timesMatrix.B8 = true := by kernel_rfl
set_option maxHeartbeats 8000000 in
set_option maxRecDepth 100000 in
theorem impl_timesMatrix.callsS (k : Nat) (A0 : Option Addr) (c0 : Nat) (l0 : List (List Int)) (A1 : Option Addr) (c1 : Nat) (l1 : List (List Int)) (r : List (List Int)) (w : World) (hr0 : Kd.C (Kd.slice 2 (Kd.int .i64)) w A0 l0.length l0) (hc0 : l0.length ≤ c0) (hr1 : Kd.C (Kd.slice 2 (Kd.int .i64)) w A1 l1.length l1) (hc1 : l1.length ≤ c1) (h : impl_timesMatrix.f k l0 l1 = some r) :
 Calls Try.prog 87 #[.slice A0 l0.length c0, .slice A1 l1.length c1] w fun e w' => ∃ v0_ : Value, e = .returned (v0_) ∧ Kd.S (Kd.slice 2 (Kd.int .i64)) 45 w' w.heap.size (fun k_ => (w.heap.size ≤ k_)) v0_ r ∧ Below w.heap.size w w' := by
 have HR0 := zA hr0
 have HC0 := zA hc0
 clear hr0 hc0
 have HR1 := zA hr1
 have HC1 := zA hc1
 clear hr1 hc1
 have HB := zA (Below.refl w.heap.size w)
 have H : ((impl_square.f k (l0.length : Int)).bind fun t226 => (impl_timesMatrix.l0 k l1 t226 l0 (l0.length : Int) 0)) = some r := h
 clear h
 replace H := Option.bind_eq_some_iff.mp H
 obtain ⟨t226, A30, H⟩ := H
 replace H : (impl_timesMatrix.l0 k l1 t226 l0 (l0.length : Int) 0) = some r := H
 have A3 := zA A30
 clear A30
 have H' := zA H
 clear H
 go_enter Try.func87, Try.ntmps87
 go_wp2_with (first | ((with_reducible refine gate_callee (f := 86) rfl ?_); refine goesL_ (some 12) rfl rfl Try.func86 (by kernel_rfl) rfl #[.int .i64 (l0.length : Int)] rfl zM ?_; (with_reducible refine (impl_square.calls k (l0.length : Int) t226 _ A3.out).mono ?_); rintro e w4 ⟨v227, rfl, ho0, hb⟩; refine ⟨_, rfl, ?_⟩; have HO228 := zA (Kd.S_lower (Kd.S_mono (ok' := fun k_ => (w.heap.size ≤ k_)) (Kd.S_bound ho0) (fun k_ hk_ => (Nat.le_trans (below_size zB) hk_.2.1))) (below_size zB)); replace HB := zA (below_step zB hb); (try clear hb); (try clear hb2); (try clear hk); (try clear hi); (try clear ho0)))
 go_loopg [15] k (fun kq v15 w' => ∃ (x5_1 : List (List Int)) (x15_1 : Int), v15 = .int .i64 x15_1 ∧ Aside0 (impl_timesMatrix.l0 kq l1 x5_1 l0 (l0.length : Int) x15_1 = some r) ∧ Aside0 (kq ≤ k) ∧ Aside0 (Kd.S (Kd.slice 2 (Kd.int .i64)) 45 w' w.heap.size (fun k_ => (w.heap.size ≤ k_)) v227 x5_1) ∧ Aside0 (Below w.heap.size w w'))
 case atStart => exact ⟨(t226), (0), (by rfl), H', ⟨Nat.le_refl _⟩, ⟨zS⟩, ⟨zB⟩⟩
 case round =>
  clear H'
  obtain ⟨x5_1, x15_1, rfl, HA, HK1, HO_5, HB⟩ := hrel
  cases gk with
  | zero => exact absurd HA.out (by simp [impl_timesMatrix.l0])
  | succ k1 =>
   have H := HA.out
   clear HA
   simp only [impl_timesMatrix.l0] at H
   by_cases c5 : x15_1 < (l0.length : Int)
   ·rw [if_pos c5] at H
    have c5b0 : decide (x15_1 < (l0.length : Int)) = true := decide_eq_true c5
    clear c5
    by_cases c6 : 0 ≤ x15_1
    ·rw [if_pos c6] at H
     have c6b0 : decide (0 ≤ x15_1) = true := decide_eq_true c6
     clear c6
     by_cases c7 : x15_1 < (l0.length : Int)
     ·rw [if_pos c7] at H
      have c7b0 : decide (x15_1 < (l0.length : Int)) = true := decide_eq_true c7
      clear c7
      have H' := zA H
      clear H
      have p229 : 0 ≤ (x15_1 : Int) := zD
      have q229 : x15_1 < (l0.length : Int) := zD
      obtain ⟨ad229, A229_0, c229_0, e229, hx229_0, hl229_0, hi229_0⟩ := at_L3 HR0.out x15_1 p229 q229
      cases e229
      replace hx229_0 := zH HB hx229_0
      have HR229_0 := zA hi229_0
      have HC229_0 := zA hl229_0
      clear hi229_0 hl229_0
      replace p229 := eq_true p229
      replace q229 := eq_true q229
      go_wp2
      go_loopg [22] k1 (fun kq v22 w' => ∃ (x5_2 : List (List Int)) (x22_2 : Int), v22 = .int .i64 x22_2 ∧ Aside0 (impl_timesMatrix.l1 kq l1 x5_2 x15_1 l0 (l0.length : Int) x15_1 (rd_L3 l0 x15_1) ((rd_L3 l0 x15_1).length : Int) x22_2 = some r) ∧ Aside0 (kq ≤ k1) ∧ Aside0 (Kd.S (Kd.slice 2 (Kd.int .i64)) 45 w' w.heap.size (fun k_ => (w.heap.size ≤ k_)) v227 x5_2) ∧ Aside0 (Below w.heap.size w w'))
      case atStart => exact ⟨(x5_1), (0), (by rfl), H', ⟨Nat.le_refl _⟩, ⟨zS⟩, ⟨zB⟩⟩
      case round =>
       clear H'
       obtain ⟨x5_2, x22_2, rfl, HA, HK2, HO_5, HB⟩ := hrel
       cases gk with
       | zero => exact absurd HA.out (by simp [impl_timesMatrix.l1])
       | succ k2 =>
        have H := HA.out
        clear HA
        simp only [impl_timesMatrix.l1] at H
        by_cases c8 : x22_2 < ((rd_L3 l0 x15_1).length : Int)
        ·rw [if_pos c8] at H
         have c8b0 : decide (x22_2 < ((rd_L3 l0 x15_1).length : Int)) = true := decide_eq_true c8
         clear c8
         by_cases c9 : 0 ≤ x22_2
         ·rw [if_pos c9] at H
          have c9b0 : decide (0 ≤ x22_2) = true := decide_eq_true c9
          clear c9
          by_cases c10 : x22_2 < ((rd_L3 l0 x15_1).length : Int)
          ·rw [if_pos c10] at H
           have c10b0 : decide (x22_2 < ((rd_L3 l0 x15_1).length : Int)) = true := decide_eq_true c10
           clear c10
           by_cases c11 : 0 ≤ x15_1
           ·rw [if_pos c11] at H
            have c11b0 : decide (0 ≤ x15_1) = true := decide_eq_true c11
            clear c11
            by_cases c12 : x15_1 < (x5_2.length : Int)
            ·rw [if_pos c12] at H
             have c12b0 : decide (x15_1 < (x5_2.length : Int)) = true := decide_eq_true c12
             clear c12
             by_cases c13 : x22_2 < (l1.length : Int)
             ·rw [if_pos c13] at H
              have c13b0 : decide (x22_2 < (l1.length : Int)) = true := decide_eq_true c13
              clear c13
              replace H := Option.bind_eq_some_iff.mp H
              obtain ⟨t233, A140, H⟩ := H
              replace H : ((impl_added.f k2 (rd_L3 x5_2 x15_1) t233).bind fun t236 => (impl_timesMatrix.l1 k2 l1 (x5_2.set (x15_1 : Int).toNat t236) x15_1 l0 (l0.length : Int) x15_1 (rd_L3 l0 x15_1) ((rd_L3 l0 x15_1).length : Int) (wrap64 (x22_2 + 1)))) = some r := H
              have A14 := zA A140
              clear A140
              replace H := Option.bind_eq_some_iff.mp H
              obtain ⟨t236, A150, H⟩ := H
              replace H : (impl_timesMatrix.l1 k2 l1 (x5_2.set (x15_1 : Int).toNat t236) x15_1 l0 (l0.length : Int) x15_1 (rd_L3 l0 x15_1) ((rd_L3 l0 x15_1).length : Int) (wrap64 (x22_2 + 1))) = some r := H
              have A15 := zA A150
              clear A150
              obtain ⟨y239, hy239⟩ : ∃ y_ : List (List Int), y_ = (x5_2.set (x15_1 : Int).toNat t236) := ⟨_, rfl⟩
              replace H : (impl_timesMatrix.l1 k2 l1 y239 x15_1 l0 (l0.length : Int) x15_1 (rd_L3 l0 x15_1) ((rd_L3 l0 x15_1).length : Int) (wrap64 (x22_2 + 1))) = some r := by (rw [hy239]; with_reducible exact H)
              have Ny239 := zA hy239
              clear hy239
              have H' := zA H
              clear H
              have p230 : 0 ≤ (x22_2 : Int) := zD
              have q230 : x22_2 < ((rd_L3 l0 x15_1).length : Int) := zD
              obtain ⟨ad230, e230, hx230_0⟩ := Kd.at_int HR229_0.out x22_2 p230 q230
              cases e230
              replace hx230_0 := zH HB hx230_0
              replace p230 := eq_true p230
              replace q230 := eq_true q230
              try go_wp2
              replace HO_5 := zA (Kd.S_drew HO_5.out)
              replace HB := zA (below_drew1 HB.out)
              obtain ⟨Ao18, co18, eo18⟩ := Kd.S_slice HO_5.out
              (subst eo18)
              have p231 : 0 ≤ (x15_1 : Int) := zD
              have q231 : x15_1 < (x5_2.length : Int) := zD
              obtain ⟨ad231, A231_0, c231_0, e231, hx231_0, hl231_0, hi231_0⟩ := at_L3 (Kd.S_reads' HO_5.out).2.2 x15_1 p231 q231
              cases e231
              obtain ⟨ce231, hce231, hMe231, hcc231⟩ := Kd.N_get (Kd.S_N HO_5.out) [] x15_1 p231 (by exact q231)
              obtain ⟨ua231_0, uc231_0, rfl, ul231_0, ge231_0⟩ := Kd.FK_slice_open hMe231
              have hv231_0 := hcc231 0 _ rfl
              rw [Nat.add_zero, show ((Kd.slice 2 (Kd.int .i64))).sz = 1 from rfl, Nat.mul_one] at hv231_0
              replace hv231_0 := Option.some.inj (hv231_0.symm.trans hx231_0)
              injection hv231_0 with hva_ hvn_ hvc_
              rw [hva_] at ge231_0
              rw [hvc_] at ul231_0
              have HL231_0 := zA (show Kd.V (Kd.int .i64) 2 _ w.heap.size _ _ (rd_L3 x5_2 x15_1) from Kd.V_mk ul231_0 ge231_0)
              clear hva_ hvn_ hvc_ ge231_0 ul231_0
              clear hcc231 hce231
              have HR231_0 := zA hi231_0
              have HC231_0 := zA hl231_0
              clear hi231_0 hl231_0
              replace p231 := eq_true p231
              replace q231 := eq_true q231
              have p232 : 0 ≤ (x22_2 : Int) := zD
              have q232 : x22_2 < (l1.length : Int) := zD
              obtain ⟨ad232, A232_0, c232_0, e232, hx232_0, hl232_0, hi232_0⟩ := at_L3 HR1.out x22_2 p232 q232
              have hw232_0 := hx232_0
              cases e232
              replace hx232_0 := zH HB hx232_0
              have HR232_0 := zA hi232_0
              have HC232_0 := zA hl232_0
              clear hi232_0 hl232_0
              replace p232 := eq_true p232
              replace q232 := eq_true q232
              refine start_ (n := 15) (S := fun w' => w'.cell? (ad231.add (x15_1).toNat) = some (.slice A231_0 (rd_L3 x5_2 x15_1).length c231_0) ∧ w'.cell? (ad232.add (x22_2).toNat) = some (.slice A232_0 (rd_L3 l1 x22_2).length c232_0)) (ds := [14]) #[false, false, false, false, false, false, false, false, false, false, false, false, false, false, false] (by kernel_rfl) rfl rfl ⟨hx231_0, (zH HB hw232_0 :)⟩ (fun hHeld => ?_); refine with_tabW impl_timesMatrix.tab8 impl_timesMatrix.bits8 (fun HT_ HW_ => ?_)
              generalize wr.drew = w17 at HO_5 HB HL231_0 HR231_0 HR232_0 hx231_0 hx232_0 hHeld ⊢
              refine zP 0 (N := some 27) (h := ?_)
              refine zP 1 (N := some 28) (h := ?_)
              refine zP 2 (N := some 29) (h := ?_)
              refine zP 3 (N := some 30) (h := ?_)
              refine zP 4 (N := some 31) (h := ?_)
              refine zP 6 (N := some 33) (h := ?_)
              refine zP 7 (N := some 34) (h := ?_)
              refine zP 8 (N := some 35) (h := ?_)
              refine zP 10 (N := some 37) (h := ?_)
              refine zT 5 hHeld (N := some 32) (h := ?_)
              refine zT 9 hHeld (N := some 36) (h := ?_)
              refine one_ (i := 11) (N := some 38) #[true, true, true, true, true, true, true, true, true, true, true, true, false, false, false] rfl rfl (one_of HT_.out (by kernel_rfl)) (by decide) (fun K hK => ?_)
              refine goes_ Try.func111 (by kernel_rfl) rfl #[.slice A232_0 (rd_L3 l1 x22_2).length c232_0, .int .i64 (rd (rd_L3 l0 x15_1) x22_2)] (by rfl) rfl rfl zM ?_
              with_reducible refine (impl_multiplied.calls k2 _ _ (rd_L3 l1 x22_2) (rd (rd_L3 l0 x15_1) x22_2) t233 _ ?side1 ?side2 A14.out).mono ?_
              (case side1 => repeat (exact (Kd.C_below HR232_0.out HB.out)))
              (case side2 => exact HC232_0.out)
              rintro e w19 ⟨v234, rfl, ho0, hb⟩
              have HS0_ := (hb.cell (World.block_lt_of_cell? _ _ (hHeld.1))).trans (hHeld.1)
              refine ⟨_, rfl, ?_⟩
              have HO235 := zA (Kd.R_lower (Kd.R_newM (M := fun k_ => (w.heap.size ≤ k_)) ho0 (below_size zB) (fun k_ h_ => h_)) (below_size zB))
              replace HO_5 := zA (Kd.S_elder' zS (Kd.R_base ho0) hb)
              replace HL231_0 := zA (Kd.V_elder' (by exact HL231_0.out) (Kd.R_base ho0) hb)
              replace HR231_0 := zA (Kd.C_below (by repeat ((with_reducible exact HR231_0.out))) hb)
              replace HB := zA (below_step zB hb)
              (try clear hb)
              (try clear hb2)
              (try clear hk)
              (try clear hi)
              (try clear ho0)
              obtain ⟨Ao20, co20, eo20⟩ := Kd.R_slice HO235.out
              (subst eo20)
              refine hK.out _ _ ⟨HS0_, (zH HB hw232_0 :)⟩ (fun hHeld => ?_)
              clear hK K
              refine norm_ (a' := ?_) ?_ ?_
              rotate_left
              ·show Act.put _ (some 38) _ = _
               simp only [Act.put, List.setIfInBounds_toArray, List.set, i64_w, i32_w]
               rfl
              refine one_ (i := 12) (N := some 39) #[true, true, true, true, true, true, true, true, true, true, true, true, true, false, false] rfl rfl (one_of HT_.out (by kernel_rfl)) (by decide) (fun K hK => ?_)
              refine goes_ Try.func110 (by kernel_rfl) rfl #[.slice A231_0 (rd_L3 x5_2 x15_1).length c231_0, .slice Ao20 t233.length co20] (by rfl) rfl rfl zM ?_
              with_reducible refine (impl_added.calls k2 _ _ (rd_L3 x5_2 x15_1) _ _ t233 t236 _ ?side1 ?side2 ?side3 ?side4 A15.out).mono ?_
              (case side1 => repeat (exact (by repeat ((with_reducible exact HR231_0.out)))))
              (case side2 => exact HC231_0.out)
              (case side3 => repeat (exact (Kd.R_reads' HO235.out).2.2))
              (case side4 => exact (Kd.R_reads' HO235.out).2.1)
              rintro e w21 ⟨v237, rfl, ho0, hb⟩
              have HS0_ := (hb.cell (World.block_lt_of_cell? _ _ (hHeld.1))).trans (hHeld.1)
              refine ⟨_, rfl, ?_⟩
              have HO238 := zA (Kd.R_lower (Kd.R_new' (Kd.R_newM (M := fun k_ => (w.heap.size ≤ k_)) ho0 (below_size zB) (fun k_ h_ => h_)) (Kd.R_lt HO235.out)) (below_size zB))
              replace HO_5 := zA (Kd.S_elder' zS (Kd.R_base ho0) hb)
              replace HL231_0 := zA (Kd.V_elder' (by exact HL231_0.out) (Kd.R_base ho0) hb)
              replace HO235 := zA (Kd.R_elder' zR (Kd.R_base ho0) hb)
              replace HR231_0 := zA (Kd.C_below (by repeat ((with_reducible exact HR231_0.out))) hb)
              replace HB := zA (below_step zB hb)
              (try clear hb)
              (try clear hb2)
              (try clear hk)
              (try clear hi)
              (try clear ho0)
              have p16 : 0 ≤ (x15_1 : Int) := zD
              have q16 : (x15_1 : Int) < ((x5_2.length : Int) : Int) := zD
              obtain ⟨go16, co16, eo16, gb16, gl16, cl16, HG16⟩ := Kd.S_form HO_5.out (by omega)
              (cases eo16)
              have GB16 := zA gb16
              have GG16 := zA HG16
              clear gb16 gl16 HG16
              (simp only [add_plain] at hx231_0)
              obtain ⟨ce16, hcl16, hM16, hcc16, hfr16⟩ := Kd.N_elem (Kd.S_N HO_5.out) [] (x15_1 : Int) p16 q16
              obtain ⟨ua16_0, uc16_0, rfl, ul16_0, ge16_0⟩ := Kd.FK_slice_open hM16
              have hx16_0 := hcc16 0 _ rfl
              have hf16_0 := hfr16 0
              (try simp only [show ((Kd.slice 2 (Kd.int .i64))).sz = 1 from rfl, Nat.mul_one, Nat.add_zero] at hx16_0)
              (try simp only [show ((Kd.slice 2 (Kd.int .i64))).sz = 1 from rfl, Nat.mul_one, Nat.add_zero] at hf16_0)
              clear hcl16 hcc16 hfr16; (try clear hM16)
              replace p16 := eq_true p16
              replace q16 := eq_true q16
              have HX22 := zA (show Kd.S (Kd.slice 2 (Kd.int .i64)) 45 _ w.heap.size (fun k_ => (w.heap.size ≤ k_) ∧ ¬ (some k_ = (v237 : Value).ownBlock)) (.slice (some ⟨go16, 0, none⟩) x5_2.length co18) x5_2 from (Kd.S_mono (HO_5.out) (fun k_ hk => ⟨hk.1.1, hk.2⟩)))
              have hne22 := ((Kd.S_R (HO_5.out)).1 go16 rfl).2
              have hj0_ : (0 : Int) ≤ (x15_1 : Int) := zD
              have hj1_ : (x15_1 : Int) < (x5_2.length : Int) := zD
              obtain ⟨oki22, ce22, hcl22, hM22, hcc22, hfr22, hoki22, hH22⟩ := Kd.S_elem HX22.out [] (x15_1 : Int) hj0_ (by omega)
              obtain ⟨u22, rfl, hu22⟩ := hM22
              obtain ⟨ab_, cb_, eb_⟩ := Kd.R_slice HO238.out
              have HP22 := (Kd.S_seg (okg := fun k_ => some k_ = (v237 : Value).ownBlock) (okp := fun k_ => some k_ = (v237 : Value).ownBlock) hH22 hj0_ (by omega) (seg := [v237]) (j := 0) (show 1 ≤ 1 from by decide) (x' := t236) ⟨_, rfl, Kd.R_tight rfl HO238.out⟩ (fun _ hk => .inr hk) (fun k_ hk => ⟨Kd.R_base HO238.out k_ hk.symm, fun e_ => hne22 (by rw [← e_]; exact hk)⟩)).1
              clear hj0_ hj1_ hoki22 hH22 hu22 hne22
              (try simp only [show ((Kd.slice 2 (Kd.int .i64))).sz = 1 from rfl, Nat.mul_one, Nat.add_zero] at HP22)
              rw [← Ny239.out] at HP22
              (try simp only [eb_] at HP22)
              have HQ22 := zA HP22
              clear hcl22 hcc22 hfr22 HP22; (try clear hM22)
              refine hK.out _ _ ⟨HS0_, (zH HB hw232_0 :)⟩ (fun hHeld => ?_)
              clear hK K
              refine norm_ (a' := ?_) ?_ ?_
              rotate_left
              ·show Act.put _ (some 39) _ = _
               simp only [Act.put, List.setIfInBounds_toArray, List.set, i64_w, i32_w]
               rfl
              refine zP 13 (N := some 40) (h := ?_)
              refine last_ (i := 14) (N := none) #[true, true, true, true, true, true, true, true, true, true, true, true, true, true, true] rfl rfl (one_of HT_.out (by kernel_rfl)) (by decide) (fun K hK => ?_)
              refine skip_ (w1 := ?_) (by rfl) rfl ?_ ?_
              rotate_left
              ·go_simp
               rfl
              refine hK.out _ _ ?_
              clear hK K
              refine done_ (done_of HT_.out (by kernel_rfl)) ?_
              try go_wp2
              go_roundg k2
              case measure => have := HK1.out; have := HK2.out; omega
              case rel => exact ⟨(y239), (wrap64 (x22_2 + 1)), (by rfl), H', ⟨by have := HK1.out; have := HK2.out; omega⟩, ⟨zS⟩, ⟨by repeat ((with_reducible first | exact HB.out | refine below_set ?_ GB16.out))⟩⟩
             ·rw [if_neg c13] at H
              exact absurd H (by simp)
            ·rw [if_neg c12] at H
             exact absurd H (by simp)
           ·rw [if_neg c11] at H
            exact absurd H (by simp)
          ·rw [if_neg c10] at H
           exact absurd H (by simp)
         ·rw [if_neg c9] at H
          exact absurd H (by simp)
        ·rw [if_neg c8] at H
         have c8b0 : decide (x22_2 < ((rd_L3 l0 x15_1).length : Int)) = false := decide_eq_false c8
         clear c8
         have H' := zA H
         clear H
         go_wp2
         go_roundg k2
         case measure => have := HK1.out; have := HK2.out; omega
         case rel => exact ⟨(x5_2), (wrap64 (x15_1 + 1)), (by rfl), H', ⟨by have := HK1.out; have := HK2.out; omega⟩, ⟨zS⟩, ⟨zB⟩⟩
     ·rw [if_neg c7] at H
      exact absurd H (by simp)
    ·rw [if_neg c6] at H
     exact absurd H (by simp)
   ·rw [if_neg c5] at H
    have c5b0 : decide (x15_1 < (l0.length : Int)) = false := decide_eq_false c5
    clear c5
    obtain rfl := Option.some.inj H
    go_wp2
    go_ret
    exact ⟨_, by rfl, zS, zB⟩

-- NOT PRINTED: function 112 (slices_IndexFunc_int64_int64_112)

-- NOT PRINTED: function 88 (slices_ContainsFunc_int64_int64_88)
set_option maxHeartbeats 1000000 in
theorem impl_timesMatrix.calls (k : Nat) (A0 : Option Addr) (c0 : Nat) (l0 : List (List Int)) (A1 : Option Addr) (c1 : Nat) (l1 : List (List Int)) (r : List (List Int)) (w : World) (hr0 : Kd.C (Kd.slice 2 (Kd.int .i64)) w A0 l0.length l0) (hc0 : l0.length ≤ c0) (hr1 : Kd.C (Kd.slice 2 (Kd.int .i64)) w A1 l1.length l1) (hc1 : l1.length ≤ c1) (h : impl_timesMatrix.f k l0 l1 = some r) :
 Calls Try.prog 87 #[.slice A0 l0.length c0, .slice A1 l1.length c1] w fun e w' => ∃ v0_ : Value, e = .returned (v0_) ∧ Kd.N (Kd.slice 2 (Kd.int .i64)) 45 w' w.heap.size (fun k_ => (w.heap.size ≤ k_)) v0_ r ∧ Below w.heap.size w w' := by
 refine (impl_timesMatrix.callsS k A0 c0 l0 A1 c1 l1 r w hr0 hc0 hr1 hc1 h).mono ?_
 rintro e w' ⟨v0_, he, hS, hB⟩
 exact ⟨v0_, he, Kd.S_N hS, hB⟩


end Go.Proofs.Ytkbneilobaehkaa.P
