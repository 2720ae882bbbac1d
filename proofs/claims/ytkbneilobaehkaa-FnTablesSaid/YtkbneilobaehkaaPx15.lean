/- What a call of each Go function named below comes to is what the plain Lean function beside it says. Made by a program of this session out of the print of the translation; Lean checks it. -/
import Derived.Test.YtkbneilobaehkaaPx0
import Derived.Test.YtkbneilobaehkaaPx10
namespace Go.Proofs.Ytkbneilobaehkaa.P
open Go.RowKit Go.Proofs.YtkbneilobaehkaaW.PrintWords Go.Proofs.YtkbneilobaehkaaW.PrintLast Go.Proofs.YtkbneilobaehkaaW.PrintMore
attribute [local go_sem] max2_int min2_int max_two min_two max_three min_three max_four min_four   -- for this text's walks alone
set_option linter.unusedVariables false
set_option linter.unusedSimpArgs false


/-! ### spec_l08Commutator: function 64 -/
mutual
def spec_l08Commutator.l0 : Nat → List (List Int) → List (List Int) → List (List Int) → List (List Int) → Int → Option ((List (List Int)))
 | 0, _, _, _, _, _ => none
 | k + 1, x0, x5, x7, x9, x10 => if x10 < (x0.length : Int) then (spec_l08Commutator.l1 k x0 x5 x7 x9 x10 (([] : List Int)) 0) else (some x9)
def spec_l08Commutator.l1 : Nat → List (List Int) → List (List Int) → List (List Int) → List (List Int) → Int → List Int → Int → Option ((List (List Int)))
 | 0, _, _, _, _, _, _, _ => none
 | k + 1, x0, x5, x7, x9, x10, x11, x12 => if x12 < (x0.length : Int) then (if 0 ≤ x10 then (if x10 < (x5.length : Int) then (if 0 ≤ x12 then (if x12 < ((rd_L3 x5 x10).length : Int) then (if x10 < (x7.length : Int) then (if x12 < ((rd_L3 x7 x10).length : Int) then (if x11.length < 17592186044416 then (spec_l08Commutator.l1 k x0 x5 x7 x9 x10 (x11 ++ [wrap64 ((rd (rd_L3 x5 x10) x12) - (rd (rd_L3 x7 x10) x12))]) (wrap64 (x12 + 1))) else (none)) else (none)) else (none)) else (none)) else (none)) else (none)) else (none)) else (if x9.length < 5864062014805 then (spec_l08Commutator.l0 k x0 x5 x7 (x9 ++ [x11]) (wrap64 (x10 + 1))) else (none))
end
def spec_l08Commutator.f (k : Nat) (l0 : List (List Int)) (l1 : List (List Int)) : Option ((List (List Int))) := (spec_l08Times.f k l0 l1).bind fun bt411 => ((spec_l08Times.f k l1 l0).bind fun bt415 => (spec_l08Commutator.l0 k l0 bt411.1 bt415.1 (([] : List (List Int))) 0))
theorem spec_l08Commutator.mono_l : ∀ k, (∀ y0 y1 y2 y3 y4, LeO (spec_l08Commutator.l0 k y0 y1 y2 y3 y4) (spec_l08Commutator.l0 (k + 1) y0 y1 y2 y3 y4)) ∧ (∀ y0 y1 y2 y3 y4 y5 y6, LeO (spec_l08Commutator.l1 k y0 y1 y2 y3 y4 y5 y6) (spec_l08Commutator.l1 (k + 1) y0 y1 y2 y3 y4 y5 y6))
 | 0 => ⟨fun _ _ _ _ _ r h => by simp [spec_l08Commutator.l0] at h, fun _ _ _ _ _ _ _ r h => by simp [spec_l08Commutator.l1] at h⟩
 | k + 1 => by
  obtain ⟨ih0, ih1⟩ := spec_l08Commutator.mono_l k
  refine ⟨?_, ?_⟩
  ·intro y0 y1 y2 y3 y4
   unfold spec_l08Commutator.l0
   repeat' first
   | (with_reducible exact ih0 _ _ _ _ _)
   | (with_reducible exact ih1 _ _ _ _ _ _ _)
   | (with_reducible exact spec_l08Times.mono _ _ _)
   | (with_reducible exact LeO.refl _)
   | (with_reducible exact LeO.none _)
   | (with_reducible refine LeO.ite ?_ ?_)
   | (with_reducible refine LeO.bind ?_ (fun _ => ?_))
  ·intro y0 y1 y2 y3 y4 y5 y6
   unfold spec_l08Commutator.l1
   repeat' first
   | (with_reducible exact ih0 _ _ _ _ _)
   | (with_reducible exact ih1 _ _ _ _ _ _ _)
   | (with_reducible exact spec_l08Times.mono _ _ _)
   | (with_reducible exact LeO.refl _)
   | (with_reducible exact LeO.none _)
   | (with_reducible refine LeO.ite ?_ ?_)
   | (with_reducible refine LeO.bind ?_ (fun _ => ?_))
theorem spec_l08Commutator.mono : ∀ a0 a1 k, LeO (spec_l08Commutator.f k a0 a1) (spec_l08Commutator.f (k + 1) a0 a1) := by
 intro a0 a1 k
 obtain ⟨ih0, ih1⟩ := spec_l08Commutator.mono_l k
 unfold spec_l08Commutator.f
 repeat' first
  | (with_reducible exact ih0 _ _ _ _ _)
  | (with_reducible exact ih1 _ _ _ _ _ _ _)
  | (with_reducible exact spec_l08Times.mono _ _ _)
  | (with_reducible exact LeO.refl _)
  | (with_reducible exact LeO.none _)
  | (with_reducible refine LeO.ite ?_ ?_)
  | (with_reducible refine LeO.bind ?_ (fun _ => ?_))
def spec_l08Commutator.T11 : Bool × List (List Nat × List Nat) := (true, [([], []), ([], []), ([], []), ([1, 2], [1, 2]), ([3], [3]), ([], []), ([4, 5], [4, 5]), ([6], [6]), ([], []), ([], []), ([8, 9], [8, 9]), ([10], [10]), ([], []), ([11, 12], [11, 12]), ([13], [13]), ([7, 14], [7, 14]), ([15], [15]), ([0, 16], [0, 16]), ([17, 17, 0, 1, 2, 3, 4, 5, 6, 7, 8, 9, 10, 11, 12, 13, 14, 15, 16, 17], [0, 17])])
def spec_l08Commutator.B11 : List Nat := [0, 0, 0, 6, 14, 0, 62, 126, 0, 0, 768, 1792, 0, 7936, 16128, 32766, 65534, 131071, 262143]
theorem spec_l08Commutator.tab11 : rtab .any (opsOf Try.f64 11) = spec_l08Commutator.T11 := by kernel_rfl
theorem spec_l08Commutator.bits11 : waitsOk spec_l08Commutator.T11.2 spec_l08Commutator.B11 = true := by kernel_rfl
set_option maxHeartbeats 8000000 in
set_option maxRecDepth 100000 in
theorem spec_l08Commutator.calls (k : Nat) (A0 : Option Addr) (c0 : Nat) (l0 : List (List Int)) (A1 : Option Addr) (c1 : Nat) (l1 : List (List Int)) (r : List (List Int)) (w : World) (hr0 : Kd.C (Kd.slice 2 (Kd.int .i64)) w A0 l0.length l0) (hc0 : l0.length ≤ c0) (hr1 : Kd.C (Kd.slice 2 (Kd.int .i64)) w A1 l1.length l1) (hc1 : l1.length ≤ c1) (h : spec_l08Commutator.f k l0 l1 = some r) :
 Calls Try.prog 64 #[.slice A0 l0.length c0, .slice A1 l1.length c1] w fun e w' => ∃ v0_ : Value, e = .returned (v0_) ∧ Kd.S (Kd.slice 2 (Kd.int .i64)) 45 w' w.heap.size (fun _ => True) v0_ r ∧ Below w.heap.size w w' := by
 have HR0 := zA hr0
 have HC0 := zA hc0
 clear hr0 hc0
 have HR1 := zA hr1
 have HC1 := zA hc1
 clear hr1 hc1
 have HB := zA (Below.refl w.heap.size w)
 have H : ((spec_l08Times.f k l0 l1).bind fun bt411 => ((spec_l08Times.f k l1 l0).bind fun bt415 => (spec_l08Commutator.l0 k l0 bt411.1 bt415.1 (([] : List (List Int))) 0))) = some r := h
 clear h
 replace H := Option.bind_eq_some_iff.mp H
 obtain ⟨⟨t411, t412⟩, A30, H⟩ := H
 replace H : ((spec_l08Times.f k l1 l0).bind fun bt415 => (spec_l08Commutator.l0 k l0 t411 bt415.1 (([] : List (List Int))) 0)) = some r := H
 have A3 := zA A30
 clear A30
 replace H := Option.bind_eq_some_iff.mp H
 obtain ⟨⟨t415, t416⟩, A40, H⟩ := H
 replace H : (spec_l08Commutator.l0 k l0 t411 t415 (([] : List (List Int))) 0) = some r := H
 have A4 := zA A40
 clear A40
 obtain ⟨y419, hy419⟩ : ∃ y_ : List (List Int), y_ = (([] : List (List Int))) := ⟨_, rfl⟩
 replace H : (spec_l08Commutator.l0 k l0 t411 t415 y419 0) = some r := by (rw [hy419]; with_reducible exact H)
 have Ny419 := zA hy419
 clear hy419
 have H' := zA H
 clear H
 go_enter Try.func64, Try.ntmps64
 go_wp2_with (first | ((with_reducible refine gate_callee (f := 92) rfl ?_); refine goesL_ (some 16) rfl rfl Try.func92 (by kernel_rfl) rfl #[.slice A0 l0.length c0, .slice A1 l1.length c1] rfl zM ?_; (with_reducible refine (spec_l08Times.calls k _ _ l0 _ _ l1 t411 t412 _ ?side1 ?side2 ?side3 ?side4 A3.out).mono ?_); (case side1 => repeat (exact HR0.out)); (case side2 => exact HC0.out); (case side3 => repeat (exact HR1.out)); (case side4 => exact HC1.out); rintro e w5 ⟨v413, rfl, ho0, hb⟩; refine ⟨_, rfl, ?_⟩; have HO414 := zA (Kd.S_lower ho0 (below_size zB)); replace HB := zA (below_step zB hb); (try clear hb); (try clear hb2); (try clear hk); (try clear hi); (try clear ho0)) | ((with_reducible refine gate_callee (f := 92) rfl ?_); refine goesL_ (some 22) rfl rfl Try.func92 (by kernel_rfl) rfl #[.slice A1 l1.length c1, .slice A0 l0.length c0] rfl zM ?_; (with_reducible refine (spec_l08Times.calls k _ _ l1 _ _ l0 t415 t416 _ ?side1 ?side2 ?side3 ?side4 A4.out).mono ?_); (case side1 => repeat (exact (Kd.C_below HR1.out HB.out))); (case side2 => exact HC1.out); (case side3 => repeat (exact (Kd.C_below HR0.out HB.out))); (case side4 => exact HC0.out); rintro e w6 ⟨v417, rfl, ho0, hb⟩; refine ⟨_, rfl, ?_⟩; have HO418 := zA (Kd.S_lower (Kd.S_new' ho0 (Kd.S_lt HO414.out)) (below_size zB)); replace HO414 := zA (Kd.S_elder' HO414.out (Kd.S_base ho0) hb); replace HB := zA (below_step zB hb); (try clear hb); (try clear hb2); (try clear hk); (try clear hi); (try clear ho0)) | ((with_reducible refine gate_dst (N := 25) rfl ?_); refine Kd.S_lit (Kd.slice 2 (Kd.int .i64)) _ 45 ?hg (N := 25) ?hd (xs := ([] : List (List Int))) (inner := []) (ok := fun _ => True) (okp := fun _ => True) ?hr ?hp (fun _ hk => hk) trivial (Below.refl _ _) (Nat.le_refl _) (by simp) ?_; (case hd => rfl); (case hg => rfl); (case hr => (go_simp; done)); (case hp => exact (Reps.none _ _)); intro v420 w7 ho8 hb hg_ hnew_; clear hg_ hnew_; (rw [← Ny419.out] at ho8); have HO421 := zA (Kd.S_lower (Kd.S_new' (Kd.S_new' ho8 (Kd.S_lt HO414.out)) (Kd.S_lt HO418.out)) (below_size zB)); replace HO414 := zA (Kd.S_elder' HO414.out (Kd.S_base ho8) hb); replace HO418 := zA (Kd.S_elder' HO418.out (Kd.S_base ho8) hb); replace HB := zA (below_step zB hb); clear hb ho8))
 go_loopg [9, 10] k (fun kq v9 v10 w' => ∃ (x9_1 : List (List Int)) (x10_1 : Int), v10 = .int .i64 x10_1 ∧ Aside0 (spec_l08Commutator.l0 kq l0 t411 t415 x9_1 x10_1 = some r) ∧ Aside0 (kq ≤ k) ∧ Aside0 (Kd.S (Kd.slice 2 (Kd.int .i64)) 45 w' w.heap.size (fun k_ => some k_ ≠ (v417 : Value).ownBlock ∧ some k_ ≠ (v9 : Value).ownBlock) v413 t411) ∧ Aside0 (Kd.S (Kd.slice 2 (Kd.int .i64)) 45 w' w.heap.size (fun k_ => some k_ ≠ (v413 : Value).ownBlock ∧ some k_ ≠ (v9 : Value).ownBlock) v417 t415) ∧ Aside0 (Kd.S (Kd.slice 2 (Kd.int .i64)) 45 w' w.heap.size (fun k_ => some k_ ≠ (v413 : Value).ownBlock ∧ some k_ ≠ (v417 : Value).ownBlock) v9 x9_1) ∧ Aside0 (Below w.heap.size w w'))
 case atStart => exact ⟨(y419), (0), (by rfl), H', ⟨Nat.le_refl _⟩, ⟨by exact Kd.S_mono HO414.out (fun _ hk => ⟨hk.1.2, hk.2⟩)⟩, ⟨by exact Kd.S_mono HO418.out (fun _ hk => ⟨hk.1.2, hk.2⟩)⟩, ⟨by exact Kd.S_mono HO421.out (fun _ hk => ⟨hk.1.2, hk.2⟩)⟩, ⟨zB⟩⟩
 case round =>
  clear H'
  obtain ⟨x9_1, x10_1, rfl, HA, HK1, HO_5, HO_7, HO_9, HB⟩ := hrel
  cases gk with
  | zero => exact absurd HA.out (by simp [spec_l08Commutator.l0])
  | succ k1 =>
   have H := HA.out
   clear HA
   simp only [spec_l08Commutator.l0] at H
   by_cases c9 : x10_1 < (l0.length : Int)
   ·rw [if_pos c9] at H
    have c9b0 : decide (x10_1 < (l0.length : Int)) = true := decide_eq_true c9
    clear c9
    obtain ⟨y422, hy422⟩ : ∃ y_ : List Int, y_ = (([] : List Int)) := ⟨_, rfl⟩
    replace H : (spec_l08Commutator.l1 k1 l0 t411 t415 x9_1 x10_1 y422 0) = some r := by (rw [hy422]; with_reducible exact H)
    have Ny422 := zA hy422
    clear hy422
    have H' := zA H
    clear H
    go_wp2_with (first | ((with_reducible refine gate_dst (N := 32) rfl ?_); refine Kd.R_lit (Kd.int .i64) _ 2 ?hg (N := 32) ?hd (xs := ([] : List Int)) (inner := []) (ok := fun _ => True) (okp := fun _ => True) ?hr ?hp (fun _ hk => hk) trivial (Below.refl _ _) (Nat.le_refl _) (by simp) ?_; (case hd => rfl); (case hg => rfl); (case hr => (go_simp; done)); (case hp => exact (Reps.none _ _)); intro v423 w10 ho11 hb hg_ hnew_; clear hg_ hnew_; (rw [← Ny422.out] at ho11); have HO424 := zA (Kd.R_lower ho11 (below_size zB)); replace HO_5 := zA (Kd.S_elder' HO_5.out (Kd.R_base ho11) hb); replace HO_7 := zA (Kd.S_elder' HO_7.out (Kd.R_base ho11) hb); replace HO_9 := zA (Kd.S_elder' HO_9.out (Kd.R_base ho11) hb); replace HB := zA (below_step zB hb); clear hb ho11))
    go_loopg [11, 12] k1 (fun kq v11 v12 w' => ∃ (x11_2 : List Int) (x12_2 : Int), v12 = .int .i64 x12_2 ∧ Aside0 (spec_l08Commutator.l1 kq l0 t411 t415 x9_1 x10_1 x11_2 x12_2 = some r) ∧ Aside0 (kq ≤ k1) ∧ Aside0 (Kd.S (Kd.slice 2 (Kd.int .i64)) 45 w' w.heap.size (fun k_ => some k_ ≠ (v417 : Value).ownBlock ∧ some k_ ≠ (u9 : Value).ownBlock ∧ some k_ ≠ (v11 : Value).ownBlock) v413 t411) ∧ Aside0 (Kd.S (Kd.slice 2 (Kd.int .i64)) 45 w' w.heap.size (fun k_ => some k_ ≠ (v413 : Value).ownBlock ∧ some k_ ≠ (u9 : Value).ownBlock ∧ some k_ ≠ (v11 : Value).ownBlock) v417 t415) ∧ Aside0 (Kd.S (Kd.slice 2 (Kd.int .i64)) 45 w' w.heap.size (fun k_ => some k_ ≠ (v413 : Value).ownBlock ∧ some k_ ≠ (v417 : Value).ownBlock ∧ some k_ ≠ (v11 : Value).ownBlock) u9 x9_1) ∧ Aside0 (Kd.R (Kd.int .i64) 2 w' w.heap.size (fun _ => True) v11 x11_2) ∧ Aside0 (Below w.heap.size w w'))
    case atStart => exact ⟨(y422), (0), (by rfl), H', ⟨Nat.le_refl _⟩, ⟨by exact Kd.S_mono HO_5.out (fun _ hk => ⟨hk.1.1, ⟨hk.1.2, hk.2⟩⟩)⟩, ⟨by exact Kd.S_mono HO_7.out (fun _ hk => ⟨hk.1.1, ⟨hk.1.2, hk.2⟩⟩)⟩, ⟨by exact Kd.S_mono HO_9.out (fun _ hk => ⟨hk.1.1, ⟨hk.1.2, hk.2⟩⟩)⟩, ⟨zR⟩, ⟨zB⟩⟩
    case round =>
     clear H'
     obtain ⟨x11_2, x12_2, rfl, HA, HK2, HO_5, HO_7, HO_9, HO_11, HB⟩ := hrel
     cases gk with
     | zero => exact absurd HA.out (by simp [spec_l08Commutator.l1])
     | succ k2 =>
      have H := HA.out
      clear HA
      simp only [spec_l08Commutator.l1] at H
      by_cases c12 : x12_2 < (l0.length : Int)
      ·rw [if_pos c12] at H
       have c12b0 : decide (x12_2 < (l0.length : Int)) = true := decide_eq_true c12
       clear c12
       by_cases c13 : 0 ≤ x10_1
       ·rw [if_pos c13] at H
        have c13b0 : decide (0 ≤ x10_1) = true := decide_eq_true c13
        clear c13
        by_cases c14 : x10_1 < (t411.length : Int)
        ·rw [if_pos c14] at H
         have c14b0 : decide (x10_1 < (t411.length : Int)) = true := decide_eq_true c14
         clear c14
         by_cases c15 : 0 ≤ x12_2
         ·rw [if_pos c15] at H
          have c15b0 : decide (0 ≤ x12_2) = true := decide_eq_true c15
          clear c15
          by_cases c16 : x12_2 < ((rd_L3 t411 x10_1).length : Int)
          ·rw [if_pos c16] at H
           have c16b0 : decide (x12_2 < ((rd_L3 t411 x10_1).length : Int)) = true := decide_eq_true c16
           clear c16
           by_cases c17 : x10_1 < (t415.length : Int)
           ·rw [if_pos c17] at H
            have c17b0 : decide (x10_1 < (t415.length : Int)) = true := decide_eq_true c17
            clear c17
            by_cases c18 : x12_2 < ((rd_L3 t415 x10_1).length : Int)
            ·rw [if_pos c18] at H
             have c18b0 : decide (x12_2 < ((rd_L3 t415 x10_1).length : Int)) = true := decide_eq_true c18
             clear c18
             by_cases c19 : x11_2.length < 17592186044416
             ·rw [if_pos c19] at H
              have LMc19 := zA c19
              clear c19
              obtain ⟨y429, hy429⟩ : ∃ y_ : List Int, y_ = (x11_2 ++ [wrap64 ((rd (rd_L3 t411 x10_1) x12_2) - (rd (rd_L3 t415 x10_1) x12_2))]) := ⟨_, rfl⟩
              replace H : (spec_l08Commutator.l1 k2 l0 t411 t415 x9_1 x10_1 y429 (wrap64 (x12_2 + 1))) = some r := by (rw [hy429]; with_reducible exact H)
              have Ny429 := zA hy429
              clear hy429
              have H' := zA H
              clear H
              try go_wp2
              replace HO_5 := zA (Kd.S_drew HO_5.out)
              replace HO_7 := zA (Kd.S_drew HO_7.out)
              replace HO_9 := zA (Kd.S_drew HO_9.out)
              replace HO_11 := zA (Kd.R_drew HO_11.out)
              replace HB := zA (below_drew1 HB.out)
              obtain ⟨Ao21, co21, eo21⟩ := Kd.S_slice HO_5.out
              (subst eo21)
              have p425 : 0 ≤ (x10_1 : Int) := zD
              have q425 : x10_1 < (t411.length : Int) := zD
              obtain ⟨ad425, A425_0, c425_0, e425, hx425_0, hl425_0, hi425_0⟩ := at_L3 (Kd.S_reads' HO_5.out).2.2 x10_1 p425 q425
              cases e425
              obtain ⟨ce425, hce425, hMe425, hcc425⟩ := Kd.S_get HO_5.out [] x10_1 p425 (by exact q425)
              obtain ⟨ve425_0, rfl, ge425_0⟩ := hMe425
              have hv425_0 := hcc425 0 _ rfl
              rw [Nat.add_zero, show ((Kd.slice 2 (Kd.int .i64))).sz = 1 from rfl, Nat.mul_one] at hv425_0
              replace hv425_0 := Option.some.inj (hv425_0.symm.trans hx425_0)
              rw [hv425_0] at ge425_0
              have HL425_0 := zA (show Kd.R (Kd.int .i64) 2 _ _ _ _ (rd_L3 t411 x10_1) from ge425_0)
              clear hv425_0 ge425_0
              clear hcc425 hce425
              have HR425_0 := zA hi425_0
              have HC425_0 := zA hl425_0
              clear hi425_0 hl425_0
              replace p425 := eq_true p425
              replace q425 := eq_true q425
              have p426 : 0 ≤ (x12_2 : Int) := zD
              have q426 : x12_2 < ((rd_L3 t411 x10_1).length : Int) := zD
              obtain ⟨ad426, e426, hx426_0⟩ := Kd.at_int (by repeat ((with_reducible exact HR425_0.out))) x12_2 p426 q426
              cases e426
              replace p426 := eq_true p426
              replace q426 := eq_true q426
              obtain ⟨Ao22, co22, eo22⟩ := Kd.S_slice HO_7.out
              (subst eo22)
              have p427 : 0 ≤ (x10_1 : Int) := zD
              have q427 : x10_1 < (t415.length : Int) := zD
              obtain ⟨ad427, A427_0, c427_0, e427, hx427_0, hl427_0, hi427_0⟩ := at_L3 (Kd.S_reads' HO_7.out).2.2 x10_1 p427 q427
              cases e427
              obtain ⟨ce427, hce427, hMe427, hcc427⟩ := Kd.S_get HO_7.out [] x10_1 p427 (by exact q427)
              obtain ⟨ve427_0, rfl, ge427_0⟩ := hMe427
              have hv427_0 := hcc427 0 _ rfl
              rw [Nat.add_zero, show ((Kd.slice 2 (Kd.int .i64))).sz = 1 from rfl, Nat.mul_one] at hv427_0
              replace hv427_0 := Option.some.inj (hv427_0.symm.trans hx427_0)
              rw [hv427_0] at ge427_0
              have HL427_0 := zA (show Kd.R (Kd.int .i64) 2 _ _ _ _ (rd_L3 t415 x10_1) from ge427_0)
              clear hv427_0 ge427_0
              clear hcc427 hce427
              have HR427_0 := zA hi427_0
              have HC427_0 := zA hl427_0
              clear hi427_0 hl427_0
              replace p427 := eq_true p427
              replace q427 := eq_true q427
              have p428 : 0 ≤ (x12_2 : Int) := zD
              have q428 : x12_2 < ((rd_L3 t415 x10_1).length : Int) := zD
              obtain ⟨ad428, e428, hx428_0⟩ := Kd.at_int (by repeat ((with_reducible exact HR427_0.out))) x12_2 p428 q428
              cases e428
              replace p428 := eq_true p428
              replace q428 := eq_true q428
              refine start_ (n := 19) (S := fun w' => w'.cell? (ad425.add (x10_1).toNat) = some (.slice (some ad426) (rd_L3 t411 x10_1).length c425_0) ∧ w'.cell? (ad426.add (x12_2).toNat) = some (.int .i64 (rd (rd_L3 t411 x10_1) x12_2)) ∧ w'.cell? (ad427.add (x10_1).toNat) = some (.slice (some ad428) (rd_L3 t415 x10_1).length c427_0) ∧ w'.cell? (ad428.add (x12_2).toNat) = some (.int .i64 (rd (rd_L3 t415 x10_1) x12_2))) (ds := [16, 17]) #[false, false, false, false, false, false, false, false, false, false, false, false, false, false, false, false, false, false, false] (by kernel_rfl) rfl rfl ⟨hx425_0, hx426_0, hx427_0, hx428_0⟩ (fun hHeld => ?_); refine with_tabW spec_l08Commutator.tab11 spec_l08Commutator.bits11 (fun HT_ HW_ => ?_)
              generalize wr.drew = w20 at HO_5 HO_7 HO_9 HO_11 HB HL425_0 HL427_0 HR425_0 HR427_0 hx425_0 hx426_0 hx427_0 hx428_0 hHeld ⊢
              refine zP 0 (N := some 39) (h := ?_)
              refine zP 1 (N := some 40) (h := ?_)
              refine zP 2 (N := some 41) (h := ?_)
              refine zP 3 (N := some 42) (h := ?_)
              refine zP 5 (N := some 44) (h := ?_)
              refine zP 8 (N := some 47) (h := ?_)
              refine zP 9 (N := some 48) (h := ?_)
              refine zP 10 (N := some 49) (h := ?_)
              refine zP 12 (N := some 51) (h := ?_)
              refine zT 4 hHeld (N := some 43) (h := ?_)
              refine zP 6 (N := some 45) (h := ?_)
              refine zT 7 hHeld (N := some 46) (h := ?_)
              refine zT 11 hHeld (N := some 50) (h := ?_)
              refine zP 13 (N := some 52) (h := ?_)
              refine zT 14 hHeld (N := some 53) (h := ?_)
              refine zP 15 (N := some 54) (h := ?_)
              refine last_ (i := 16) (N := some 55) #[true, true, true, true, true, true, true, true, true, true, true, true, true, true, true, true, true, false, false] rfl rfl (one_of HT_.out (by kernel_rfl)) (by decide) (fun K hK => ?_)
              refine value_ (w1 := ?_) (v := ?_) (by rfl) rfl ?_ ?_
              rotate_left 2
              ·go_simp
               constructor
               ·rfl
               ·rfl
              refine hK.out _ _ ?_
              clear hK K
              refine norm_ (a' := ?_) ?_ ?_
              rotate_left
              ·show Act.put _ (some 55) _ = _
               simp only [Act.put, List.setIfInBounds_toArray, List.set, i64_w, i32_w]
               rfl
              refine last_ (i := 17) (N := some 56) #[true, true, true, true, true, true, true, true, true, true, true, true, true, true, true, true, true, true, false] rfl rfl (one_of HT_.out (by kernel_rfl)) (by decide) (fun K hK => ?_)
              refine Kd.R_append_step (Kd.int .i64) (w0 := w) w.heap.size (by rfl) (.tmp 39) (.tmp 55) 45 2 (.int .i64 0) 8 rfl Try.underlying45 info2 rfl (by decide) (by omega) u11 x11_2 (wrap64 ((rd (rd_L3 t411 x10_1) x12_2) - (rd (rd_L3 t415 x10_1) x12_2))) [.int .i64 (wrap64 ((rd (rd_L3 t411 x10_1) x12_2) - (rd (rd_L3 t415 x10_1) x12_2)))] (fun _ => True) (fun _ => False) rfl rfl ?aP (fun _ hk => hk.elim) ?aF ?aO ?aB ?aS ?aL ?_
              (case aP => exact rfl)
              (case aB => exact zB)
              (case aF => exact (fun _ _ => trivial))
              (case aO => exact zR)
              (case aS => exact (below_size zB))
              (case aL => have := LMc19.out; omega)
              intro v430 w23 ho hb hg hat
              rw [← Ny429.out] at ho
              have HO431 := zA (ho)
              replace HO_5 := zA (Kd.S_after (ok := (fun k_ => some k_ ≠ (.slice (some ad427) t415.length co22 : Value).ownBlock ∧ some k_ ≠ (u9 : Value).ownBlock)) (by exact Kd.S_mono HO_5.out (fun _ hk => ⟨⟨hk.1, hk.2.1⟩, hk.2.2⟩)) hg hat)
              replace HO_7 := zA (Kd.S_after (ok := (fun k_ => some k_ ≠ (.slice (some ad425) t411.length co21 : Value).ownBlock ∧ some k_ ≠ (u9 : Value).ownBlock)) (by exact Kd.S_mono HO_7.out (fun _ hk => ⟨⟨hk.1, hk.2.1⟩, hk.2.2⟩)) hg hat)
              replace HO_9 := zA (Kd.S_after (ok := (fun k_ => some k_ ≠ (.slice (some ad425) t411.length co21 : Value).ownBlock ∧ some k_ ≠ (.slice (some ad427) t415.length co22 : Value).ownBlock)) (by exact Kd.S_mono HO_9.out (fun _ hk => ⟨⟨hk.1, hk.2.1⟩, hk.2.2⟩)) hg hat)
              replace HL425_0 := zA (Kd.R_after (ok := (fun k_ => some k_ ≠ (.slice (some ad425) t411.length co21 : Value).ownBlock ∧ some k_ ≠ (.slice (some ad427) t415.length co22 : Value).ownBlock ∧ some k_ ≠ (u9 : Value).ownBlock)) (by exact Kd.R_mono HL425_0.out (fun _ hk => ⟨⟨hk.2, ⟨hk.1.1, hk.1.2.1⟩⟩, hk.1.2.2⟩)) hg hat)
              replace HL427_0 := zA (Kd.R_after (ok := (fun k_ => some k_ ≠ (.slice (some ad425) t411.length co21 : Value).ownBlock ∧ some k_ ≠ (.slice (some ad427) t415.length co22 : Value).ownBlock ∧ some k_ ≠ (u9 : Value).ownBlock)) (by exact Kd.R_mono HL427_0.out (fun _ hk => ⟨⟨hk.1.1, ⟨hk.2, hk.1.2.1⟩⟩, hk.1.2.2⟩)) hg hat)
              replace HB := zA (hb)
              clear HO_11
              clear ho hb hg hat
              refine hK.out _ _ ?_
              clear hK K
              refine norm_ (a' := ?_) ?_ ?_
              rotate_left
              ·show Act.put _ (some 56) _ = _
               simp only [Act.put, List.setIfInBounds_toArray, List.set, i64_w, i32_w]
               rfl
              refine zP 18 (N := some 11) (h := ?_)
              refine done_ (done_of HT_.out (by kernel_rfl)) ?_
              try go_wp2
              go_roundg k2
              case measure => have := HK1.out; have := HK2.out; omega
              case rel => exact ⟨(y429), (wrap64 (x12_2 + 1)), (by rfl), H', ⟨by have := HK1.out; have := HK2.out; omega⟩, ⟨by exact Kd.S_mono HO_5.out (fun _ hk => ⟨hk.1.1, ⟨hk.1.2, hk.2⟩⟩)⟩, ⟨by exact Kd.S_mono HO_7.out (fun _ hk => ⟨hk.1.1, ⟨hk.1.2, hk.2⟩⟩)⟩, ⟨by exact Kd.S_mono HO_9.out (fun _ hk => ⟨hk.1.1, ⟨hk.1.2, hk.2⟩⟩)⟩, ⟨zR⟩, ⟨zB⟩⟩
             ·rw [if_neg c19] at H
              exact absurd H (by simp)
            ·rw [if_neg c18] at H
             exact absurd H (by simp)
           ·rw [if_neg c17] at H
            exact absurd H (by simp)
          ·rw [if_neg c16] at H
           exact absurd H (by simp)
         ·rw [if_neg c15] at H
          exact absurd H (by simp)
        ·rw [if_neg c14] at H
         exact absurd H (by simp)
       ·rw [if_neg c13] at H
        exact absurd H (by simp)
      ·rw [if_neg c12] at H
       have c12b0 : decide (x12_2 < (l0.length : Int)) = false := decide_eq_false c12
       clear c12
       by_cases c24 : x9_1.length < 5864062014805
       ·rw [if_pos c24] at H
        have LMc24 := zA c24
        clear c24
        obtain ⟨y432, hy432⟩ : ∃ y_ : List (List Int), y_ = (x9_1 ++ [x11_2]) := ⟨_, rfl⟩
        replace H : (spec_l08Commutator.l0 k2 l0 t411 t415 y432 (wrap64 (x10_1 + 1))) = some r := by (rw [hy432]; with_reducible exact H)
        have Ny432 := zA hy432
        clear hy432
        have H' := zA H
        clear H
        obtain ⟨Ao26, co26, eo26⟩ := Kd.R_slice HO_11.out
        subst eo26
        go_wp2_with (first | ((with_reducible refine gate_builtin (b := .append) (xs := #[.tmp 57, .tmp 59]) rfl ?_); at_builtin; refine Kd.S_append (Kd.slice 2 (Kd.int .i64)) (w0 := w) w.heap.size rfl (.tmp 57) (.tmp 59) 27 45 (.slice none 0 0) 24 rfl Try.underlying27 info45 rfl (by decide) (by omega) u9 x9_1 x11_2 [.slice Ao26 x11_2.length co26] (fun k_ => some k_ ≠ (v413 : Value).ownBlock ∧ some k_ ≠ (v417 : Value).ownBlock) (fun k_ => some k_ = (.slice Ao26 x11_2.length co26 : Value).ownBlock) rfl rfl ?aP (fun k_ hk_ => ((Kd.R_mono (ok' := fun k_ => ((fun k_ => some k_ ≠ (v413 : Value).ownBlock ∧ some k_ ≠ (v417 : Value).ownBlock)) k_ ∧ some k_ ≠ (u9 : Value).ownBlock) (Kd.R_apart' (Kd.R_apart' (Kd.R_apart' (HO_11.out) (Kd.S_typed HO_5.out) (by decide)) (Kd.S_typed HO_7.out) (by decide)) (Kd.S_typed HO_9.out) (by decide)) (fun k_ hk => ⟨⟨hk.1.1.2, hk.1.2⟩, hk.2⟩))).1 k_ hk_.symm) ?aF ?aO ?aB ?aS ?aL ?_; (case aP => exact Kd.M_row (Kd.R_mono (Kd.R_tight rfl (Kd.R_mono (ok' := fun k_ => ((fun k_ => some k_ ≠ (v413 : Value).ownBlock ∧ some k_ ≠ (v417 : Value).ownBlock)) k_ ∧ some k_ ≠ (u9 : Value).ownBlock) (Kd.R_apart' (Kd.R_apart' (Kd.R_apart' (HO_11.out) (Kd.S_typed HO_5.out) (by decide)) (Kd.S_typed HO_7.out) (by decide)) (Kd.S_typed HO_9.out) (by decide)) (fun k_ hk => ⟨⟨hk.1.1.2, hk.1.2⟩, hk.2⟩))) (fun _ h_ => h_))); (case aB => exact zB); (case aF => exact (fun k_ hk => ⟨Kd.fresh' (Kd.S_lt HO_5.out) k_ hk, Kd.fresh' (Kd.S_lt HO_7.out) k_ hk⟩)); (case aO => exact (by exact Kd.S_mono HO_9.out (fun k_ hk => ⟨⟨hk.1, hk.2.1⟩, fun e_ => hk.2.2 e_⟩))); (case aS => exact (below_size zB)); (case aL => have := LMc24.out; omega); intro v433 w25 ho hb hg hat; rw [← Ny432.out] at ho; have HO434 := zA (ho); replace HO_5 := zA (Kd.S_after (ok := (fun k_ => some k_ ≠ (v417 : Value).ownBlock ∧ some k_ ≠ (.slice Ao26 x11_2.length co26 : Value).ownBlock)) (by exact Kd.S_mono HO_5.out (fun _ hk => ⟨⟨hk.1, hk.2.2⟩, hk.2.1⟩)) hg hat); replace HO_7 := zA (Kd.S_after (ok := (fun k_ => some k_ ≠ (v413 : Value).ownBlock ∧ some k_ ≠ (.slice Ao26 x11_2.length co26 : Value).ownBlock)) (by exact Kd.S_mono HO_7.out (fun _ hk => ⟨⟨hk.1, hk.2.2⟩, hk.2.1⟩)) hg hat); replace HB := zA (hb); clear HO_9 HO_11; clear ho hb hg hat))
        go_roundg k2
        case measure => have := HK1.out; have := HK2.out; omega
        case rel => exact ⟨(y432), (wrap64 (x10_1 + 1)), (by rfl), H', ⟨by have := HK1.out; have := HK2.out; omega⟩, ⟨by exact Kd.S_mono HO_5.out (fun _ hk => ⟨hk.1.1, hk.2⟩)⟩, ⟨by exact Kd.S_mono HO_7.out (fun _ hk => ⟨hk.1.1, hk.2⟩)⟩, ⟨zS⟩, ⟨zB⟩⟩
       ·rw [if_neg c24] at H
        exact absurd H (by simp)
   ·rw [if_neg c9] at H
    have c9b0 : decide (x10_1 < (l0.length : Int)) = false := decide_eq_false c9
    clear c9
    obtain rfl := Option.some.inj H
    go_wp2
    go_ret
    exact ⟨_, by rfl, by exact Kd.S_mono HO_9.out (fun _ hk => trivial), zB⟩

end Go.Proofs.Ytkbneilobaehkaa.P
