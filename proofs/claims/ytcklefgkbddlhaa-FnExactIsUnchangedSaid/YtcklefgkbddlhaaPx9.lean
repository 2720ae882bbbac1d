/- What a call of each Go function named below comes to is what the plain Lean function beside it says. Made by a program of this session out of the print of the translation; Lean checks it. -/
import Derived.Test.YtcklefgkbddlhaaPx0
import Derived.Test.YtcklefgkbddlhaaPx3
import Derived.Test.YtcklefgkbddlhaaPx6
import Derived.Test.YtcklefgkbddlhaaPx7
import Derived.Test.YtcklefgkbddlhaaPx8
namespace Go.Proofs.Ytcklefgkbddlhaa.P
open Go.RowKit Go.Proofs.YtcklefgkbddlhaaW.PrintWords Go.Proofs.YtcklefgkbddlhaaW.PrintLast Go.Proofs.YtcklefgkbddlhaaW.PrintMore
attribute [local go_sem] max2_int min2_int max_two min_two max_three min_three max_four min_four   -- for this text's walks alone
set_option linter.unusedVariables false
set_option linter.unusedSimpArgs false


/-! ### spec_l07Map: function 99 -/
mutual
def spec_l07Map.l0 : Nat → Int → List (List Int) → Int → Int → Int → List (S89) → Int → Int → List (S89) → Option (Int × Int × (List (S89)) × Bool)
  | 0, _, _, _, _, _, _, _, _, _ => none
  | k + 1, x1, x2, x9, x248000, x248001, x248002, x253000, x253001, x253002 => if x9 < (x248002.length : Int) then (if 0 ≤ x9 then ((spec_l01Words.f k x1 (((rd_T89 x248002 x9).f0).size : Int)).bind fun t254 => (spec_l07Map.l1 k x1 x2 x9 ((rd_T89 x248002 x9).f0) t254 0 x248000 x248001 x248002 x253000 x253001 x253002)) else (none)) else (some (x253000, x253001, x253002, true))
def spec_l07Map.l1 : Nat → Int → List (List Int) → Int → ByteArray → List ByteArray → Int → Int → Int → List (S89) → Int → Int → List (S89) → Option (Int × Int × (List (S89)) × Bool)
  | 0, _, _, _, _, _, _, _, _, _, _, _, _ => none
  | k + 1, x1, x2, x9, x10, x11, x12, x248000, x248001, x248002, x253000, x253001, x253002 => if x12 < (x11.length : Int) then (if 0 ≤ x12 then ((spec_l07Factor.f k x2 x10 (rdOf ByteArray.empty x11 x12)).bind fun t258 => (if t258 = 0 then (spec_l07Map.l1 k x1 x2 x9 x10 x11 (wrap64 (x12 + 1)) x248000 x248001 x248002 x253000 x253001 x253002) else (if 0 ≤ x9 then (if x9 < (x248002.length : Int) then ((spec_l01Gcd.f k t258 ((rd_T89 x248002 x9).f1.f1)).bind fun t261 => (if t261 = 0 then (none) else (if (wrap64 (Int.tdiv t258 t261)) > 1000000000 then (spec_l07Map.j2 k x1 x2 x9 x10 x11 x12 t258 t261 true x248000 x248001 x248002 x253000 x253001 x253002 ((rd_T89 x248002 x9).f1.f0) ((rd_T89 x248002 x9).f1.f1)) else (spec_l07Map.j2 k x1 x2 x9 x10 x11 x12 t258 t261 (decide ((wrap64 (Int.tdiv t258 t261)) < (-1000000000))) x248000 x248001 x248002 x253000 x253001 x253002 ((rd_T89 x248002 x9).f1.f0) ((rd_T89 x248002 x9).f1.f1))))) else (none)) else (none)))) else (none)) else (spec_l07Map.l0 k x1 x2 (wrap64 (x9 + 1)) x248000 x248001 x248002 x253000 x253001 x253002)
def spec_l07Map.j2 : Nat → Int → List (List Int) → Int → ByteArray → List ByteArray → Int → Int → Int → Bool → Int → Int → List (S89) → Int → Int → List (S89) → Int → Int → Option (Int × Int × (List (S89)) × Bool)
  | 0, _, _, _, _, _, _, _, _, _, _, _, _, _, _, _, _, _ => none
  | k + 1, x1, x2, x9, x10, x11, x12, x13, x15, x76, x248000, x248001, x248002, x253000, x253001, x253002, x261000, x261001 => if x76 = true then (some (0, 0, ([] : List (S89)), false)) else (if x15 = 0 then (none) else ((spec_l01Frac.f k (wrap64 (x261000 * (wrap64 (Int.tdiv x13 x15)))) (wrap64 (Int.tdiv x261001 x15))).bind fun bt262 => (if bt262.2.2 = true then (if 0 ≤ x12 then (if x12 < (x11.length : Int) then ((spec_l01Put.f k x253002 (rdOf ByteArray.empty x11 x12) bt262.1 bt262.2.1).bind fun bt267 => (if bt267.2 = true then (spec_l07Map.l1 k x1 x2 x9 x10 x11 (wrap64 (x12 + 1)) x248000 x248001 x248002 x253000 x253001 bt267.1) else (some (0, 0, ([] : List (S89)), false)))) else (none)) else (none)) else (some (0, 0, ([] : List (S89)), false)))))
end
def spec_l07Map.f (k : Nat) (a0_0 : Int) (a0_1 : Int) (l0_2 : List (S89)) (a1 : Int) (l2 : List (List Int)) : Option (Int × Int × (List (S89)) × Bool) := spec_l07Map.l0 k a1 l2 0 a0_0 a0_1 l0_2 a1 a0_1 (([] : List (S89)))
theorem spec_l07Map.mono_l : ∀ k, (∀ y0 y1 y2 y3 y4 y5 y6 y7 y8, LeO (spec_l07Map.l0 k y0 y1 y2 y3 y4 y5 y6 y7 y8) (spec_l07Map.l0 (k + 1) y0 y1 y2 y3 y4 y5 y6 y7 y8)) ∧ (∀ y0 y1 y2 y3 y4 y5 y6 y7 y8 y9 y10 y11, LeO (spec_l07Map.l1 k y0 y1 y2 y3 y4 y5 y6 y7 y8 y9 y10 y11) (spec_l07Map.l1 (k + 1) y0 y1 y2 y3 y4 y5 y6 y7 y8 y9 y10 y11)) ∧ (∀ y0 y1 y2 y3 y4 y5 y6 y7 y8 y9 y10 y11 y12 y13 y14 y15 y16, LeO (spec_l07Map.j2 k y0 y1 y2 y3 y4 y5 y6 y7 y8 y9 y10 y11 y12 y13 y14 y15 y16) (spec_l07Map.j2 (k + 1) y0 y1 y2 y3 y4 y5 y6 y7 y8 y9 y10 y11 y12 y13 y14 y15 y16))
  | 0 => ⟨fun _ _ _ _ _ _ _ _ _ r h => by simp [spec_l07Map.l0] at h, fun _ _ _ _ _ _ _ _ _ _ _ _ r h => by simp [spec_l07Map.l1] at h, fun _ _ _ _ _ _ _ _ _ _ _ _ _ _ _ _ _ r h => by simp [spec_l07Map.j2] at h⟩
  | k + 1 => by
    obtain ⟨ih0, ih1, ih2⟩ := spec_l07Map.mono_l k
    refine ⟨?_, ?_, ?_⟩
    · intro y0 y1 y2 y3 y4 y5 y6 y7 y8
      unfold spec_l07Map.l0
      repeat' first
      | (with_reducible exact ih0 _ _ _ _ _ _ _ _ _)
      | (with_reducible exact ih1 _ _ _ _ _ _ _ _ _ _ _ _)
      | (with_reducible exact ih2 _ _ _ _ _ _ _ _ _ _ _ _ _ _ _ _ _)
      | (with_reducible exact spec_l01Frac.mono _ _ _)
      | (with_reducible exact spec_l01Gcd.mono _ _ _)
      | (with_reducible exact spec_l01Put.mono _ _ _ _ _)
      | (with_reducible exact spec_l01Words.mono _ _ _)
      | (with_reducible exact spec_l07Factor.mono _ _ _ _)
      | (with_reducible exact LeO.refl _)
      | (with_reducible exact LeO.none _)
      | (with_reducible refine LeO.ite ?_ ?_)
      | (with_reducible refine LeO.bind ?_ (fun _ => ?_))
    · intro y0 y1 y2 y3 y4 y5 y6 y7 y8 y9 y10 y11
      unfold spec_l07Map.l1
      repeat' first
      | (with_reducible exact ih0 _ _ _ _ _ _ _ _ _)
      | (with_reducible exact ih1 _ _ _ _ _ _ _ _ _ _ _ _)
      | (with_reducible exact ih2 _ _ _ _ _ _ _ _ _ _ _ _ _ _ _ _ _)
      | (with_reducible exact spec_l01Frac.mono _ _ _)
      | (with_reducible exact spec_l01Gcd.mono _ _ _)
      | (with_reducible exact spec_l01Put.mono _ _ _ _ _)
      | (with_reducible exact spec_l01Words.mono _ _ _)
      | (with_reducible exact spec_l07Factor.mono _ _ _ _)
      | (with_reducible exact LeO.refl _)
      | (with_reducible exact LeO.none _)
      | (with_reducible refine LeO.ite ?_ ?_)
      | (with_reducible refine LeO.bind ?_ (fun _ => ?_))
    · intro y0 y1 y2 y3 y4 y5 y6 y7 y8 y9 y10 y11 y12 y13 y14 y15 y16
      unfold spec_l07Map.j2
      repeat' first
      | (with_reducible exact ih0 _ _ _ _ _ _ _ _ _)
      | (with_reducible exact ih1 _ _ _ _ _ _ _ _ _ _ _ _)
      | (with_reducible exact ih2 _ _ _ _ _ _ _ _ _ _ _ _ _ _ _ _ _)
      | (with_reducible exact spec_l01Frac.mono _ _ _)
      | (with_reducible exact spec_l01Gcd.mono _ _ _)
      | (with_reducible exact spec_l01Put.mono _ _ _ _ _)
      | (with_reducible exact spec_l01Words.mono _ _ _)
      | (with_reducible exact spec_l07Factor.mono _ _ _ _)
      | (with_reducible exact LeO.refl _)
      | (with_reducible exact LeO.none _)
      | (with_reducible refine LeO.ite ?_ ?_)
      | (with_reducible refine LeO.bind ?_ (fun _ => ?_))
theorem spec_l07Map.mono : ∀ a0 a1 a2 a3 a4 k, LeO (spec_l07Map.f k a0 a1 a2 a3 a4) (spec_l07Map.f (k + 1) a0 a1 a2 a3 a4) := by
  intro a0 a1 a2 a3 a4 k
  obtain ⟨ih0, ih1, ih2⟩ := spec_l07Map.mono_l k
  unfold spec_l07Map.f
  repeat' first
      | (with_reducible exact ih0 _ _ _ _ _ _ _ _ _)
      | (with_reducible exact ih1 _ _ _ _ _ _ _ _ _ _ _ _)
      | (with_reducible exact ih2 _ _ _ _ _ _ _ _ _ _ _ _ _ _ _ _ _)
      | (with_reducible exact spec_l01Frac.mono _ _ _)
      | (with_reducible exact spec_l01Gcd.mono _ _ _)
      | (with_reducible exact spec_l01Put.mono _ _ _ _ _)
      | (with_reducible exact spec_l01Words.mono _ _ _)
      | (with_reducible exact spec_l07Factor.mono _ _ _ _)
      | (with_reducible exact LeO.refl _)
      | (with_reducible exact LeO.none _)
      | (with_reducible refine LeO.ite ?_ ?_)
      | (with_reducible refine LeO.bind ?_ (fun _ => ?_))
def spec_l07Map.T16 : Bool × List (List Nat × List Nat) := (true, [([], []), ([0], [0]), ([], []), ([], []), ([2, 3], [2, 3]), ([1, 4], [1, 4]), ([], []), ([6], [6]), ([], []), ([7, 8], [7, 8]), ([5, 9], [5, 9]), ([10], [10]), ([11], [11]), ([11], [11]), ([], []), ([14, 12, 10, 0, 1, 2, 3, 4, 5, 6, 7, 8, 9, 10, 11, 12, 14], [12, 14]), ([13, 15, 0, 1, 2, 3, 4, 5, 6, 7, 8, 9, 10, 11, 12, 13, 14, 15], [13])])
def spec_l07Map.B16 : List Nat := [0, 1, 0, 0, 12, 31, 0, 64, 0, 448, 1023, 2047, 4095, 4095, 0, 24575, 65535]
theorem spec_l07Map.tab16 : rtab .any (opsOf Try.f99 16) = spec_l07Map.T16 := by kernel_rfl
theorem spec_l07Map.bits16 : waitsOk spec_l07Map.T16.2 spec_l07Map.B16 = true := by kernel_rfl
def spec_l07Map.T19 : Bool × List (List Nat × List Nat) := (true, [([], []), ([0], [0]), ([], []), ([], []), ([2, 3], [2, 3]), ([4], [4]), ([], []), ([1, 5, 6], [1, 5, 6]), ([7], [7]), ([8], [8]), ([8], [8]), ([9, 7, 0, 1, 2, 3, 4, 5, 6, 7, 8, 9], [9]), ([10, 11, 0, 1, 2, 3, 4, 5, 6, 7, 8, 9, 10, 11], [10])])
def spec_l07Map.B19 : List Nat := [0, 1, 0, 0, 12, 28, 0, 127, 255, 511, 511, 1023, 4095]
theorem spec_l07Map.tab19 : rtab .any (opsOf Try.f99 19) = spec_l07Map.T19 := by kernel_rfl
theorem spec_l07Map.bits19 : waitsOk spec_l07Map.T19.2 spec_l07Map.B19 = true := by kernel_rfl
set_option maxHeartbeats 8000000 in
set_option maxRecDepth 100000 in
theorem spec_l07Map.calls (k : Nat) (a0_0 : Int) (a0_1 : Int) (A0_2 : Option Addr) (c0_2 : Nat) (l0_2 : List (S89)) (a1 : Int) (A2 : Option Addr) (c2 : Nat) (l2 : List (List Int)) (r1 : Int) (r2 : Int) (r3 : List (S89)) (r4 : Bool) (w : World) (hr0_2 : Kd.C k89 w A0_2 l0_2.length l0_2) (hc0_2 : l0_2.length ≤ c0_2) (hr2 : Kd.C (Kd.slice 2 (Kd.int .i64)) w A2 l2.length l2) (hc2 : l2.length ≤ c2) (h : spec_l07Map.f k a0_0 a0_1 l0_2 a1 l2 = some (r1, r2, r3, r4)) :
    Calls Try.prog 99 #[.agg #[.int .i64 a0_0, .int .i64 a0_1, .slice A0_2 l0_2.length c0_2], .int .i64 a1, .slice A2 l2.length c2] w fun e w' => ∃ v2_ : Value, e = .returned (.tuple #[.agg #[.int .i64 r1, .int .i64 r2, v2_], .bool r4]) ∧ Kd.R k89 89 w' w.heap.size (fun _ => True) v2_ r3 ∧ Below w.heap.size w w' := by
  have hu32 := Try.underlying32
  have hu27 := Try.underlying27
  have HR0_2 := Aside0.mk hr0_2
  have HC0_2 := Aside0.mk hc0_2
  clear hr0_2 hc0_2
  have HR2 := Aside0.mk hr2
  have HC2 := Aside0.mk hc2
  clear hr2 hc2
  have HB := Aside0.mk (Below.refl w.heap.size w)
  have H : (spec_l07Map.l0 k a1 l2 0 a0_0 a0_1 l0_2 a1 a0_1 (([] : List (S89)))) = some (r1, r2, r3, r4) := h
  clear h
  obtain ⟨y249, hy249⟩ : ∃ y_ : List (S89), y_ = (([] : List (S89))) := ⟨_, rfl⟩
  replace H : (spec_l07Map.l0 k a1 l2 0 a0_0 a0_1 l0_2 a1 a0_1 y249) = some (r1, r2, r3, r4) := by first | (rw [hy249]; with_reducible exact H) | (have H2_ := (Option.bind_some _ _).symm.trans H; rw [hy249]; with_reducible exact H2_) | (have H2_ := (Option.bind_some _ _).symm.trans H; with_reducible exact H2_) | with_reducible exact H | (rw [hy249]; exact H) | exact H
  have Ny249 := Aside0.mk hy249
  clear hy249
  have H' := Aside0.mk H
  clear H
  go_enter Try.func99, Try.ntmps99
  go_wp2_with (first | ((with_reducible refine gate_dst (N := 3) rfl ?_); refine zX 3 (#[.int .i64 a0_0, .int .i64 a0_1, .slice A0_2 l0_2.length c0_2]) 32 ?_; intro gb247 hg w4 hbox hb; have BK247 := Aside0.mk (hbox); have GW247 := Aside0.mk (zG : w.heap.size ≤ gb247); have GE247 := Aside0.mk (zG : w.heap.size ≤ gb247); replace HB := Aside0.mk (below_step zB hb); clear hb hbox hg) | ((with_reducible refine gate_dst (N := 6) rfl ?_); refine zX 6 (#[.int .i64 0, .int .i64 0, .slice none 0 0]) 32 ?_; intro gb248 hg w5 hbox hb; have BK248 := Aside0.mk (hbox); have GW248 := Aside0.mk (zG : w.heap.size ≤ gb248); have GE248 := Aside0.mk (zG : w.heap.size ≤ gb248); have NB247_248 := Aside0.mk (zU BK247 hg); have NB248_247 := Aside0.mk (zV BK247 hg); replace BK247 := Aside0.mk (zW BK247 hb); replace HB := Aside0.mk (below_step zB hb); clear hb hbox hg; have hnb6 := NB247_248.out; have hnc6 := NB248_247.out; obtain ⟨hcz7_0, hcz7_1, hcz7_2, hfz7_0, hfz7_1, hfz7_2⟩ := zC3 BK247) | ((with_reducible refine gate_dst (N := 23) rfl ?_); refine Kd.R_lit k89 _ 89 ?hg (N := 23) ?hd (xs := ([] : List (S89))) (inner := []) (ok := fun _ => True) (okp := fun _ => True) ?hr ?hp (fun _ hk => hk) trivial (Below.refl _ _) (Nat.le_refl _) (by simp) ?_; (case hd => rfl); (case hg => rfl); (case hr => first | (go_simp; done) | (go_simp; rfl)); (case hp => exact (Reps.none _ _)); intro v250 w8 ho9 hb hg_ hnew_; clear hg_ hnew_; (first | rw [← Ny249.out] at ho9 | (simp only [Int.reduceToNat] at ho9; rw [← Ny249.out] at ho9)); have HO251 := Aside0.mk (Kd.R_lower ho9 (below_size zB)); replace BK247 := Aside0.mk (zW BK247 hb); replace BK248 := Aside0.mk (zW BK248 hb); replace HB := Aside0.mk (below_step zB hb); clear hb ho9; obtain ⟨Ao10, co10, eo10⟩ := Kd.R_slice HO251.out; subst eo10) | ((with_reducible refine gate_dst (N := 8) rfl ?_); refine zX 8 (#[.int .i64 0, .int .i64 0, .slice none 0 0]) 32 ?_; intro gb252 hg w11 hbox hb; have BK252 := Aside0.mk (hbox); have GW252 := Aside0.mk (zG : w.heap.size ≤ gb252); have GE252 := Aside0.mk (zG : w.heap.size ≤ gb252); have NB247_252 := Aside0.mk (zU BK247 hg); have NB252_247 := Aside0.mk (zV BK247 hg); have NB248_252 := Aside0.mk (zU BK248 hg); have NB252_248 := Aside0.mk (zV BK248 hg); replace HO251 := Aside0.mk (Kd.R_below HO251.out hb); replace BK247 := Aside0.mk (zW BK247 hb); replace BK248 := Aside0.mk (zW BK248 hb); replace HB := Aside0.mk (below_step zB hb); clear hb hbox hg; have hnb12 := NB252_247.out; have hnc12 := NB247_252.out; have hnb13 := NB252_248.out; have hnc13 := NB248_252.out; obtain ⟨hcz14_0, hcz14_1, hcz14_2, hfz14_0, hfz14_1, hfz14_2⟩ := zC3 BK252))
  go_loopg [9] k (fun kq v9 w' => ∃ (x9_1 : Int) (x249000_1 : Int) (x249001_1 : Int) (x253002_1 : List (S89)) (u253002 : Value), v9 = .int .i64 x9_1 ∧ Aside0 (spec_l07Map.l0 kq a1 l2 x9_1 a0_0 a0_1 l0_2 a1 a0_1 x253002_1 = some (r1, r2, r3, r4)) ∧ Aside0 (kq ≤ k) ∧ Aside0 (Kd.R k89 89 w' w.heap.size (fun _ => True) u253002 x253002_1) ∧ Aside0 (w'.heap[gb247]? = some (.cells #[.int .i64 a0_0, .int .i64 a0_1, (.slice A0_2 l0_2.length c0_2)] 32 (0, 0))) ∧ Aside0 (w'.heap[gb248]? = some (.cells #[.int .i64 x249000_1, .int .i64 x249001_1, (.slice none 0 0)] 32 (0, 0))) ∧ Aside0 (w'.heap[gb252]? = some (.cells #[.int .i64 a1, .int .i64 a0_1, u253002] 32 (0, 0))) ∧ Aside0 (Below w.heap.size w w'))
  case atStart => exact ⟨(0), (0), (0), (y249), (.slice Ao10 y249.length co10), (by first | rfl | (simp; done) | (simp [*]; done)), H', ⟨Nat.le_refl _⟩, ⟨by (with_reducible repeat (first | apply Kd.R_alloc | apply Kd.R_drewN | apply Kd.R_drew)); exact Kd.R_mono (Kd.R_far (p := ⟨gb252, 2, none⟩) (Kd.R_far (p := ⟨gb252, 1, none⟩) (Kd.R_far (p := ⟨gb252, 0, none⟩) (Kd.R_types HO251.out BK252.out (by decide)) (fun _ hk => hk.2) (.int .i64 a1)) (fun _ hk => hk.2) (.int .i64 a0_1)) (fun _ hk => hk.2) (.slice Ao10 y249.length co10)) (fun _ hk => trivial)⟩, ⟨by (with_reducible repeat (first | refine blk_drewN ?_ _ | refine blk_drew ?_ | refine blk_alloc ?_ _)); refine blk_far ?_ NB247_252.out _; (with_reducible repeat (first | refine blk_drewN ?_ _ | refine blk_drew ?_ | refine blk_alloc ?_ _)); refine blk_far ?_ NB247_252.out _; (with_reducible repeat (first | refine blk_drewN ?_ _ | refine blk_drew ?_ | refine blk_alloc ?_ _)); refine blk_far ?_ NB247_252.out _; (with_reducible repeat (first | refine blk_drewN ?_ _ | refine blk_drew ?_ | refine blk_alloc ?_ _)); exact BK247.out⟩, ⟨by (with_reducible repeat (first | refine blk_drewN ?_ _ | refine blk_drew ?_ | refine blk_alloc ?_ _)); refine blk_far ?_ NB248_252.out _; (with_reducible repeat (first | refine blk_drewN ?_ _ | refine blk_drew ?_ | refine blk_alloc ?_ _)); refine blk_far ?_ NB248_252.out _; (with_reducible repeat (first | refine blk_drewN ?_ _ | refine blk_drew ?_ | refine blk_alloc ?_ _)); refine blk_far ?_ NB248_252.out _; (with_reducible repeat (first | refine blk_drewN ?_ _ | refine blk_drew ?_ | refine blk_alloc ?_ _)); exact BK248.out⟩, ⟨by (with_reducible repeat (first | refine blk_drewN ?_ _ | refine blk_drew ?_ | refine blk_alloc ?_ _)); refine blk_put (cs := #[.int .i64 a1, .int .i64 a0_1, .slice none 0 0]) ?_ 2 _ rfl; (with_reducible repeat (first | refine blk_drewN ?_ _ | refine blk_drew ?_ | refine blk_alloc ?_ _)); refine blk_put (cs := #[.int .i64 a1, .int .i64 0, .slice none 0 0]) ?_ 1 _ rfl; (with_reducible repeat (first | refine blk_drewN ?_ _ | refine blk_drew ?_ | refine blk_alloc ?_ _)); refine blk_put (cs := #[.int .i64 0, .int .i64 0, .slice none 0 0]) ?_ 0 _ rfl; (with_reducible repeat (first | refine blk_drewN ?_ _ | refine blk_drew ?_ | refine blk_alloc ?_ _)); exact BK252.out⟩, ⟨zB⟩⟩
  case round =>
    clear H'
    obtain ⟨x9_1, x249000_1, x249001_1, x253002_1, u253002, rfl, HA, HK1, HO_253002, BK247, BK248, BK252, HB⟩ := hrel
    cases gk with
    | zero => exact absurd HA.out (by simp [spec_l07Map.l0])
    | succ k1 =>
      have H := HA.out
      clear HA
      simp only [spec_l07Map.l0] at H
      by_cases c15 : x9_1 < (l0_2.length : Int)
      · rw [if_pos c15] at H
        have c15b0 : decide (x9_1 < (l0_2.length : Int)) = true := decide_eq_true c15
        clear c15
        by_cases c16 : 0 ≤ x9_1
        · rw [if_pos c16] at H
          have c16b0 : decide (0 ≤ x9_1) = true := decide_eq_true c16
          clear c16
          replace H := Option.bind_eq_some_iff.mp H
          obtain ⟨t254, A170, H⟩ := H
          replace H : (spec_l07Map.l1 k1 a1 l2 x9_1 ((rd_T89 l0_2 x9_1).f0) t254 0 a0_0 a0_1 l0_2 a1 a0_1 x253002_1) = some (r1, r2, r3, r4) := H
          have A17 := Aside0.mk A170
          clear A170
          have H' := Aside0.mk H
          clear H
          have hnb18 := NB247_248.out
          have hnc18 := NB248_247.out
          have hnb19 := NB247_252.out
          have hnc19 := NB252_247.out
          obtain ⟨hcz20_0, hcz20_1, hcz20_2, hfz20_0, hfz20_1, hfz20_2⟩ := zC3 BK247
          have p253 : 0 ≤ (x9_1 : Int) := zD
          have q253 : x9_1 < (l0_2.length : Int) := zD
          obtain ⟨ad253, e253, hx253_0, hx253_1, hx253_2⟩ := at_T89 HR0_2.out x9_1 p253 q253
          cases e253
          replace hx253_0 := zH HB hx253_0
          replace hx253_1 := zH HB hx253_1
          replace hx253_2 := zH HB hx253_2
          replace p253 := eq_true p253
          replace q253 := eq_true q253
          go_wp2_with (first | ((with_reducible refine gate_callee (f := 143) rfl ?_); refine goesL_ (some 41) rfl rfl Try.func143 (by kernel_rfl) rfl #[.int .i64 a1, .int .i64 (((rd_T89 l0_2 x9_1).f0).size : Int)] rfl zM ?_; (with_reducible refine (spec_l01Words.calls k1 a1 (((rd_T89 l0_2 x9_1).f0).size : Int) t254 _ A17.out).mono ?_); rintro e w21 ⟨v255, rfl, ho0, hb⟩; refine ⟨_, rfl, ?_⟩; have HO256 := Aside0.mk (Kd.R_lower ho0 (below_size zB)); replace HO_253002 := Aside0.mk (Kd.R_below HO_253002.out hb); replace BK247 := Aside0.mk (zW BK247 hb); replace BK248 := Aside0.mk (zW BK248 hb); replace BK252 := Aside0.mk (zW BK252 hb); replace HB := Aside0.mk (below_step zB hb); (try clear hb); (try clear hb2); (try clear hk); (try clear hi); (try clear ho0)))
          go_loopg [12] k1 (fun kq v12 w' => ∃ (x12_2 : Int) (x249000_2 : Int) (x249001_2 : Int) (x253002_2 : List (S89)) (u253002 : Value), v12 = .int .i64 x12_2 ∧ Aside0 (spec_l07Map.l1 kq a1 l2 x9_1 ((rd_T89 l0_2 x9_1).f0) t254 x12_2 a0_0 a0_1 l0_2 a1 a0_1 x253002_2 = some (r1, r2, r3, r4)) ∧ Aside0 (kq ≤ k1) ∧ Aside0 (Kd.R Kd.string 9 w' w.heap.size (fun _ => True) v255 t254) ∧ Aside0 (Kd.R k89 89 w' w.heap.size (fun _ => True) u253002 x253002_2) ∧ Aside0 (w'.heap[gb247]? = some (.cells #[.int .i64 a0_0, .int .i64 a0_1, (.slice (some ad253) l0_2.length c0_2)] 32 (0, 0))) ∧ Aside0 (w'.heap[gb248]? = some (.cells #[.int .i64 x249000_2, .int .i64 x249001_2, (.slice none 0 0)] 32 (0, 0))) ∧ Aside0 (w'.heap[gb252]? = some (.cells #[.int .i64 a1, .int .i64 a0_1, u253002] 32 (0, 0))) ∧ Aside0 (Below w.heap.size w w'))
          case atStart => exact ⟨(0), (x249000_1), (x249001_1), (x253002_1), (u253002), (by first | rfl | (simp; done) | (simp [*]; done)), H', ⟨Nat.le_refl _⟩, ⟨zR⟩, ⟨zR⟩, ⟨zK⟩, ⟨zK⟩, ⟨zK⟩, ⟨zB⟩⟩
          case round =>
            clear H'
            obtain ⟨x12_2, x249000_2, x249001_2, x253002_2, u253002, rfl, HA, HK2, HO_11, HO_253002, BK247, BK248, BK252, HB⟩ := hrel
            cases gk with
            | zero => exact absurd HA.out (by simp [spec_l07Map.l1])
            | succ k2 =>
             have H := HA.out
             clear HA
             simp only [spec_l07Map.l1] at H
             by_cases c22 : x12_2 < (t254.length : Int)
             ·rw [if_pos c22] at H
              have c22b0 : decide (x12_2 < (t254.length : Int)) = true := decide_eq_true c22
              clear c22
              by_cases c23 : 0 ≤ x12_2
              ·rw [if_pos c23] at H
               have c23b0 : decide (0 ≤ x12_2) = true := decide_eq_true c23
               clear c23
               replace H := Option.bind_eq_some_iff.mp H
               obtain ⟨t258, A240, H⟩ := H
               replace H : (if t258 = 0 then (spec_l07Map.l1 k2 a1 l2 x9_1 ((rd_T89 l0_2 x9_1).f0) t254 (wrap64 (x12_2 + 1)) a0_0 a0_1 l0_2 a1 a0_1 x253002_2) else (if 0 ≤ x9_1 then (if x9_1 < (l0_2.length : Int) then ((spec_l01Gcd.f k2 t258 ((rd_T89 l0_2 x9_1).f1.f1)).bind fun t261 => (if t261 = 0 then (none) else (if (wrap64 (Int.tdiv t258 t261)) > 1000000000 then (spec_l07Map.j2 k2 a1 l2 x9_1 ((rd_T89 l0_2 x9_1).f0) t254 x12_2 t258 t261 true a0_0 a0_1 l0_2 a1 a0_1 x253002_2 ((rd_T89 l0_2 x9_1).f1.f0) ((rd_T89 l0_2 x9_1).f1.f1)) else (spec_l07Map.j2 k2 a1 l2 x9_1 ((rd_T89 l0_2 x9_1).f0) t254 x12_2 t258 t261 (decide ((wrap64 (Int.tdiv t258 t261)) < (-1000000000))) a0_0 a0_1 l0_2 a1 a0_1 x253002_2 ((rd_T89 l0_2 x9_1).f1.f0) ((rd_T89 l0_2 x9_1).f1.f1))))) else (none)) else (none))) = some (r1, r2, r3, r4) := H
               have A24 := Aside0.mk A240
               clear A240
               by_cases c25 : t258 = 0
               ·rw [if_pos c25] at H
                have c25b0 : (t258 == 0) = true := beq_iff_eq.mpr c25
                have c25b1 : (t258 != 0) = false := bne_eq_false_iff_eq.mpr c25
                clear c25
                have H' := Aside0.mk H
                clear H
                obtain ⟨Ao26, co26, eo26⟩ := Kd.R_slice HO_11.out
                subst eo26
                have p257 : 0 ≤ (x12_2 : Int) := zD
                have q257 : x12_2 < (t254.length : Int) := zD
                obtain ⟨ad257, e257, hx257_0⟩ := Kd.at_string (Kd.R_reads' HO_11.out).2.2 x12_2 p257 q257
                cases e257
                replace p257 := eq_true p257
                replace q257 := eq_true q257
                go_wp2_with (first | ((with_reducible refine gate_callee (f := 144) rfl ?_); refine goesL_ (some 54) rfl rfl Try.func144 (by kernel_rfl) rfl #[.slice A2 l2.length c2, .string ((rd_T89 l0_2 x9_1).f0), .string (rdOf ByteArray.empty t254 x12_2)] rfl zM ?_; (with_reducible refine (spec_l07Factor.calls k2 _ _ l2 ((rd_T89 l0_2 x9_1).f0) (rdOf ByteArray.empty t254 x12_2) t258 _ ?side1 ?side2 A24.out).mono ?_); (case side1 => repeat (first | exact (Kd.C_below HR2.out HB.out) | (with_reducible refine Kd.C_alloc ?_ _) | (with_reducible refine Kd.C_drewN ?_ _) | (with_reducible refine Kd.C_drew ?_))); (case side2 => exact HC2.out); rintro e w' ⟨rfl, ⟨nd, rfl⟩⟩; refine ⟨_, rfl, ?_⟩))
                go_roundg k2
                case measure => have := HK1.out; have := HK2.out; omega
                case rel => exact ⟨(wrap64 (x12_2 + 1)), (x249000_2), (x249001_2), (x253002_2), (u253002), (by first | rfl | (simp; done) | (simp [*]; done)), H', ⟨by have := HK1.out; have := HK2.out; omega⟩, ⟨zR⟩, ⟨zR⟩, ⟨zK⟩, ⟨zK⟩, ⟨zK⟩, ⟨zB⟩⟩
               ·rw [if_neg c25] at H
                have c25b0 : (t258 == 0) = false := beq_eq_false_iff_ne.mpr c25
                have c25b1 : (t258 != 0) = true := bne_iff_ne.mpr c25
                by_cases c27 : 0 ≤ x9_1
                ·rw [if_pos c27] at H
                 have c27b0 : decide (0 ≤ x9_1) = true := decide_eq_true c27
                 clear c27
                 by_cases c28 : x9_1 < (l0_2.length : Int)
                 ·rw [if_pos c28] at H
                  have c28b0 : decide (x9_1 < (l0_2.length : Int)) = true := decide_eq_true c28
                  clear c28
                  replace H := Option.bind_eq_some_iff.mp H
                  obtain ⟨t261, A290, H⟩ := H
                  replace H : (if t261 = 0 then (none) else (if (wrap64 (Int.tdiv t258 t261)) > 1000000000 then (spec_l07Map.j2 k2 a1 l2 x9_1 ((rd_T89 l0_2 x9_1).f0) t254 x12_2 t258 t261 true a0_0 a0_1 l0_2 a1 a0_1 x253002_2 ((rd_T89 l0_2 x9_1).f1.f0) ((rd_T89 l0_2 x9_1).f1.f1)) else (spec_l07Map.j2 k2 a1 l2 x9_1 ((rd_T89 l0_2 x9_1).f0) t254 x12_2 t258 t261 (decide ((wrap64 (Int.tdiv t258 t261)) < (-1000000000))) a0_0 a0_1 l0_2 a1 a0_1 x253002_2 ((rd_T89 l0_2 x9_1).f1.f0) ((rd_T89 l0_2 x9_1).f1.f1)))) = some (r1, r2, r3, r4) := H
                  have A29 := Aside0.mk A290
                  clear A290
                  have HC30 := Aside0.mk H
                  clear H
                  obtain ⟨Ao31, co31, eo31⟩ := Kd.R_slice HO_11.out
                  subst eo31
                  have p257 : 0 ≤ (x12_2 : Int) := zD
                  have q257 : x12_2 < (t254.length : Int) := zD
                  obtain ⟨ad257, e257, hx257_0⟩ := Kd.at_string (Kd.R_reads' HO_11.out).2.2 x12_2 p257 q257
                  cases e257
                  replace p257 := eq_true p257
                  replace q257 := eq_true q257
                  go_upto_region 14 with (first | ((with_reducible refine gate_callee (f := 144) rfl ?_); refine goesL_ (some 54) rfl rfl Try.func144 (by kernel_rfl) rfl #[.slice A2 l2.length c2, .string ((rd_T89 l0_2 x9_1).f0), .string (rdOf ByteArray.empty t254 x12_2)] rfl zM ?_; (with_reducible refine (spec_l07Factor.calls k2 _ _ l2 ((rd_T89 l0_2 x9_1).f0) (rdOf ByteArray.empty t254 x12_2) t258 _ ?side1 ?side2 A24.out).mono ?_); (case side1 => repeat (first | exact (Kd.C_below HR2.out HB.out) | (with_reducible refine Kd.C_alloc ?_ _) | (with_reducible refine Kd.C_drewN ?_ _) | (with_reducible refine Kd.C_drew ?_))); (case side2 => exact HC2.out); rintro e w' ⟨rfl, ⟨nd, rfl⟩⟩; refine ⟨_, rfl, ?_⟩; (try (rw [drewN_self wr]; generalize hq_ : World.drewN wr _ = wr; replace HO_11 : Aside0 (Kd.R Kd.string 9 wr w.heap.size (fun _ => True) (.slice (some ad257) t254.length co31) t254) := ⟨by rw [← hq_]; exact zR⟩; replace HO_253002 : Aside0 (Kd.R k89 89 wr w.heap.size (fun _ => True) u253002 x253002_2) := ⟨by rw [← hq_]; exact zR⟩; replace BK247 : Aside0 (wr.heap[gb247]? = some (.cells #[.int .i64 a0_0, .int .i64 a0_1, .slice (some ad253) l0_2.length c0_2] 32 (0, 0))) := ⟨by rw [← hq_]; exact zK⟩; replace BK248 : Aside0 (wr.heap[gb248]? = some (.cells #[.int .i64 x249000_2, .int .i64 x249001_2, .slice none 0 0] 32 (0, 0))) := ⟨by rw [← hq_]; exact zK⟩; replace BK252 : Aside0 (wr.heap[gb252]? = some (.cells #[.int .i64 a1, .int .i64 a0_1, u253002] 32 (0, 0))) := ⟨by rw [← hq_]; exact zK⟩; replace HB : Aside0 (Below w.heap.size w wr) := ⟨by rw [← hq_]; exact zB⟩; clear hq_)); have hnb32 := NB247_248.out; have hnc32 := NB248_247.out; have hnb33 := NB247_252.out; have hnc33 := NB252_247.out; obtain ⟨hcz34_0, hcz34_1, hcz34_2, hfz34_0, hfz34_1, hfz34_2⟩ := zC3 BK247; have p259 : 0 ≤ (x9_1 : Int) := zD; have q259 : x9_1 < (l0_2.length : Int) := zD; obtain ⟨ad259, e259, hx259_0, hx259_1, hx259_2⟩ := at_T89 HR0_2.out x9_1 p259 q259; obtain rfl : ad253 = ad259 := (by injection e259); replace hx259_0 := zH HB hx259_0; replace hx259_1 := zH HB hx259_1; replace hx259_2 := zH HB hx259_2; replace p259 := eq_true p259; replace q259 := eq_true q259) | ((with_reducible refine gate_dst (N := 14) rfl ?_); refine zX 14 (#[.int .i64 0, .int .i64 0]) 27 ?_; intro gb260 hg w35 hbox hb; have BK260 := Aside0.mk (hbox); have GW260 := Aside0.mk (zG : w.heap.size ≤ gb260); have GE260 := Aside0.mk (zG : w.heap.size ≤ gb260); have NB247_260 := Aside0.mk (zU BK247 hg); have NB260_247 := Aside0.mk (zV BK247 hg); have NB248_260 := Aside0.mk (zU BK248 hg); have NB260_248 := Aside0.mk (zV BK248 hg); have NB252_260 := Aside0.mk (zU BK252 hg); have NB260_252 := Aside0.mk (zV BK252 hg); replace HO_11 := Aside0.mk (Kd.R_below HO_11.out hb); replace HO_253002 := Aside0.mk (Kd.R_below HO_253002.out hb); replace BK247 := Aside0.mk (zW BK247 hb); replace BK248 := Aside0.mk (zW BK248 hb); replace BK252 := Aside0.mk (zW BK252 hb); replace HB := Aside0.mk (below_step zB hb); clear hb hbox hg; have hnb36 := NB260_247.out; have hnc36 := NB247_260.out; have hnb37 := NB260_248.out; have hnc37 := NB248_260.out; have hnb38 := NB260_252.out; have hnc38 := NB252_260.out; obtain ⟨hcz39_0, hcz39_1, hfz39_0, hfz39_1⟩ := zC2 BK260) | ((with_reducible refine gate_callee (f := 145) rfl ?_); refine goesL_ (some 66) rfl rfl Try.func145 (by kernel_rfl) rfl #[.int .i64 t258, .int .i64 ((rd_T89 l0_2 x9_1).f1.f1)] rfl zM ?_; (with_reducible refine (spec_l01Gcd.calls k2 t258 ((rd_T89 l0_2 x9_1).f1.f1) t261 _ A29.out).mono ?_); rintro e w40 ⟨rfl, hb⟩; refine ⟨_, rfl, ?_⟩; replace HO_11 := Aside0.mk (Kd.R_below (by (with_reducible repeat (first | apply Kd.R_alloc | apply Kd.R_drewN | apply Kd.R_drew)); exact (Kd.R_mono (Kd.R_far (p := ⟨gb260, 1, none⟩) (Kd.R_far (p := ⟨gb260, 0, none⟩) (Kd.R_types HO_11.out BK260.out (by decide)) (fun _ hk => hk.2) (.int .i64 ((rd_T89 l0_2 x9_1).f1.f0))) (fun _ hk => hk.2) (.int .i64 ((rd_T89 l0_2 x9_1).f1.f1))) (fun _ h_ => h_.1))) hb); replace HO_253002 := Aside0.mk (Kd.R_below (by (with_reducible repeat (first | apply Kd.R_alloc | apply Kd.R_drewN | apply Kd.R_drew)); exact (Kd.R_mono (Kd.R_far (p := ⟨gb260, 1, none⟩) (Kd.R_far (p := ⟨gb260, 0, none⟩) (Kd.R_types HO_253002.out BK260.out (by decide)) (fun _ hk => hk.2) (.int .i64 ((rd_T89 l0_2 x9_1).f1.f0))) (fun _ hk => hk.2) (.int .i64 ((rd_T89 l0_2 x9_1).f1.f1))) (fun _ h_ => h_.1))) hb); replace BK247 := Aside0.mk (blk_below (g := gb247) (o := .cells #[.int .i64 a0_0, .int .i64 a0_1, .slice (some ad253) l0_2.length c0_2] 32 (0, 0)) (by (with_reducible repeat (first | refine blk_drewN ?_ _ | refine blk_drew ?_ | refine blk_alloc ?_ _)); refine blk_far ?_ NB247_260.out _; (with_reducible repeat (first | refine blk_drewN ?_ _ | refine blk_drew ?_ | refine blk_alloc ?_ _)); refine blk_far ?_ NB247_260.out _; exact zK) hb); replace BK248 := Aside0.mk (blk_below (g := gb248) (o := .cells #[.int .i64 x249000_2, .int .i64 x249001_2, .slice none 0 0] 32 (0, 0)) (by (with_reducible repeat (first | refine blk_drewN ?_ _ | refine blk_drew ?_ | refine blk_alloc ?_ _)); refine blk_far ?_ NB248_260.out _; (with_reducible repeat (first | refine blk_drewN ?_ _ | refine blk_drew ?_ | refine blk_alloc ?_ _)); refine blk_far ?_ NB248_260.out _; exact zK) hb); replace BK252 := Aside0.mk (blk_below (g := gb252) (o := .cells #[.int .i64 a1, .int .i64 a0_1, u253002] 32 (0, 0)) (by (with_reducible repeat (first | refine blk_drewN ?_ _ | refine blk_drew ?_ | refine blk_alloc ?_ _)); refine blk_far ?_ NB252_260.out _; (with_reducible repeat (first | refine blk_drewN ?_ _ | refine blk_drew ?_ | refine blk_alloc ?_ _)); refine blk_far ?_ NB252_260.out _; exact zK) hb); replace BK260 := Aside0.mk (blk_below (g := gb260) (o := .cells #[.int .i64 ((rd_T89 l0_2 x9_1).f1.f0), .int .i64 ((rd_T89 l0_2 x9_1).f1.f1)] 27 (0, 0)) (by (with_reducible repeat (first | refine blk_drewN ?_ _ | refine blk_drew ?_ | refine blk_alloc ?_ _)); refine blk_put (cs := #[.int .i64 ((rd_T89 l0_2 x9_1).f1.f0), .int .i64 0]) ?_ 1 _ rfl; (with_reducible repeat (first | refine blk_drewN ?_ _ | refine blk_drew ?_ | refine blk_alloc ?_ _)); refine blk_put (cs := #[.int .i64 0, .int .i64 0]) ?_ 0 _ rfl; exact zK) hb); replace HB := Aside0.mk (below_step zB hb); (try clear hb); (try clear hb2); (try clear hk); (try clear hi)))
                  (try simp only [Act.put, List.setIfInBounds_toArray, List.set_cons_zero, List.set_cons_succ])
                  go_cut [76] (fun v76 wc => ∃ (kq : Nat) (x76_29 : Bool), v76 = .bool x76_29 ∧ Aside0 (spec_l07Map.j2 kq a1 l2 x9_1 ((rd_T89 l0_2 x9_1).f0) t254 x12_2 t258 t261 x76_29 a0_0 a0_1 l0_2 a1 a0_1 x253002_2 ((rd_T89 l0_2 x9_1).f1.f0) ((rd_T89 l0_2 x9_1).f1.f1) = some (r1, r2, r3, r4)) ∧ Aside0 (kq ≤ k2) ∧ Aside0 (Kd.R Kd.string 9 wc w.heap.size (fun _ => True) (.slice (some ad257) t254.length co31) t254) ∧ Aside0 (Kd.R k89 89 wc w.heap.size (fun _ => True) u253002 x253002_2) ∧ Aside0 (wc.heap[gb247]? = some (.cells #[.int .i64 a0_0, .int .i64 a0_1, (.slice (some ad253) l0_2.length c0_2)] 32 (0, 0))) ∧ Aside0 (wc.heap[gb248]? = some (.cells #[.int .i64 x249000_2, .int .i64 x249001_2, (.slice none 0 0)] 32 (0, 0))) ∧ Aside0 (wc.heap[gb252]? = some (.cells #[.int .i64 a1, .int .i64 a0_1, u253002] 32 (0, 0))) ∧ Aside0 (wc.heap[gb260]? = some (.cells #[.int .i64 ((rd_T89 l0_2 x9_1).f1.f0), .int .i64 ((rd_T89 l0_2 x9_1).f1.f1)] 27 (0, 0))) ∧ Aside0 (Below w.heap.size w wc))
                  case first =>
                   have H := HC30.out
                   clear HC30
                   by_cases c41 : t261 = 0
                   ·rw [if_pos c41] at H
                    exact absurd H (by simp)
                   ·rw [if_neg c41] at H
                    have c41b0 : (t261 == 0) = false := beq_eq_false_iff_ne.mpr c41
                    have c41b1 : (t261 != 0) = true := bne_iff_ne.mpr c41
                    (first | rw [c41b0] | (simp only [i64_w, i32_w]; rw [c41b0]) | skip)
                    by_cases c42 : (wrap64 (Int.tdiv t258 t261)) > 1000000000
                    ·rw [if_pos c42] at H
                     have c42b0 : decide (1000000000 < (wrap64 (Int.tdiv t258 t261))) = true := decide_eq_true c42
                     clear c42
                     have H' := Aside0.mk H
                     clear H
                     go_wp2
                     go_meet
                     case rel => exact ⟨_, (true), (by first | rfl | (simp; done) | (simp [*]; done)), H', ⟨by have := HK1.out; have := HK2.out; first | omega | exact Nat.le_refl _⟩, ⟨zR⟩, ⟨zR⟩, ⟨zK⟩, ⟨zK⟩, ⟨zK⟩, ⟨zK⟩, ⟨zB⟩⟩
                    ·rw [if_neg c42] at H
                     have c42b0 : decide (1000000000 < (wrap64 (Int.tdiv t258 t261))) = false := decide_eq_false c42
                     clear c42
                     have H' := Aside0.mk H
                     clear H
                     go_wp2
                     go_meet
                     case rel => exact ⟨_, (decide ((wrap64 (Int.tdiv t258 t261)) < (-1000000000))), (by first | rfl | (simp; done) | (simp [*]; done)), H', ⟨by have := HK1.out; have := HK2.out; first | omega | exact Nat.le_refl _⟩, ⟨zR⟩, ⟨zR⟩, ⟨zK⟩, ⟨zK⟩, ⟨zK⟩, ⟨zK⟩, ⟨zB⟩⟩
                  case rest =>
                   clear HC30
                   obtain ⟨kq, x76_29, rfl, HA, HJ29, HO_11, HO_253002, BK247, BK248, BK252, BK260, HB⟩ := hcut
                   cases kq with
                   | zero => exact absurd HA.out (by simp [spec_l07Map.j2])
                   | succ kj29 =>
                    have H := HA.out
                    clear HA
                    simp only [spec_l07Map.j2] at H
                    by_cases c43 : x76_29 = true
                    ·subst c43
                     have H1 : (some (0, 0, ([] : List (S89)), false)) = some (r1, r2, r3, r4) := by rw [if_pos rfl] at H; exact H
                     clear H
                     have H := H1
                     clear H1
                     simp only [Option.some.injEq, Prod.mk.injEq] at H
                     obtain ⟨rfl, rfl, rfl, rfl⟩ := H
                     have hnb44 := NB248_247.out
                     have hnc44 := NB247_248.out
                     have hnb45 := NB248_252.out
                     have hnc45 := NB252_248.out
                     have hnb46 := NB248_260.out
                     have hnc46 := NB260_248.out
                     obtain ⟨hcz47_0, hcz47_1, hcz47_2, hfz47_0, hfz47_1, hfz47_2⟩ := zC3 BK248
                     go_wp2
                     refine bodyPost_ret (results_ct rfl _ _ gb248 32 #[.int .i64 0, .int .i64 0, .slice none 0 0] (0, 0) _ rfl (by (with_reducible repeat (first | refine blk_drewN ?_ _ | refine blk_drew ?_ | refine blk_alloc ?_ _)); refine blk_put (cs := #[.int .i64 0, .int .i64 0, .slice none 0 0]) ?_ 2 _ rfl; (with_reducible repeat (first | refine blk_drewN ?_ _ | refine blk_drew ?_ | refine blk_alloc ?_ _)); refine blk_put (cs := #[.int .i64 0, .int .i64 x249001_2, .slice none 0 0]) ?_ 1 _ rfl; (with_reducible repeat (first | refine blk_drewN ?_ _ | refine blk_drew ?_ | refine blk_alloc ?_ _)); refine blk_put (cs := #[.int .i64 x249000_2, .int .i64 x249001_2, .slice none 0 0]) ?_ 0 _ rfl; exact zK) Try.underlying32 rfl (by kernel_rfl)) rfl ?_
                     exact ⟨_, by first | rfl | (simp [errW_none, errW_some] <;> rfl) | (simp [*, errW_none, errW_some] <;> rfl), by first | exact Kd.R_nil _ _ _ _ _ | exact Kd.N_nil _ _ _ _ _ | exact Kd.V_nil _ _ _ _ _ | exact Kd.Q_nil _ _ _ _ _ | exact Kd.S_nil _ _ _ _ _, zB⟩
                    ·replace c43 := Bool.eq_false_iff.mpr c43
                     subst c43
                     have H1 : (if t261 = 0 then (none) else ((spec_l01Frac.f kj29 (wrap64 (((rd_T89 l0_2 x9_1).f1.f0) * (wrap64 (Int.tdiv t258 t261)))) (wrap64 (Int.tdiv ((rd_T89 l0_2 x9_1).f1.f1) t261))).bind fun bt262 => (if bt262.2.2 = true then (if 0 ≤ x12_2 then (if x12_2 < (t254.length : Int) then ((spec_l01Put.f kj29 x253002_2 (rdOf ByteArray.empty t254 x12_2) bt262.1 bt262.2.1).bind fun bt267 => (if bt267.2 = true then (spec_l07Map.l1 kj29 a1 l2 x9_1 ((rd_T89 l0_2 x9_1).f0) t254 (wrap64 (x12_2 + 1)) a0_0 a0_1 l0_2 a1 a0_1 bt267.1) else (some (0, 0, ([] : List (S89)), false)))) else (none)) else (none)) else (some (0, 0, ([] : List (S89)), false))))) = some (r1, r2, r3, r4) := by rw [if_neg (show ¬ (false = true) by decide)] at H; exact H
                     clear H
                     have H := H1
                     clear H1
                     by_cases c48 : t261 = 0
                     ·rw [if_pos c48] at H
                      exact absurd H (by simp)
                     ·rw [if_neg c48] at H
                      have c48b0 : (t261 == 0) = false := beq_eq_false_iff_ne.mpr c48
                      have c48b1 : (t261 != 0) = true := bne_iff_ne.mpr c48
                      replace H := Option.bind_eq_some_iff.mp H
                      obtain ⟨⟨t262, t263, t264⟩, A490, H⟩ := H
                      replace H : (if t264 = true then (if 0 ≤ x12_2 then (if x12_2 < (t254.length : Int) then ((spec_l01Put.f kj29 x253002_2 (rdOf ByteArray.empty t254 x12_2) t262 t263).bind fun bt267 => (if bt267.2 = true then (spec_l07Map.l1 kj29 a1 l2 x9_1 ((rd_T89 l0_2 x9_1).f0) t254 (wrap64 (x12_2 + 1)) a0_0 a0_1 l0_2 a1 a0_1 bt267.1) else (some (0, 0, ([] : List (S89)), false)))) else (none)) else (none)) else (some (0, 0, ([] : List (S89)), false))) = some (r1, r2, r3, r4) := H
                      have A49 := Aside0.mk A490
                      clear A490
                      by_cases c50 : t264 = true
                      ·subst c50
                       have H1 : (if 0 ≤ x12_2 then (if x12_2 < (t254.length : Int) then ((spec_l01Put.f kj29 x253002_2 (rdOf ByteArray.empty t254 x12_2) t262 t263).bind fun bt267 => (if bt267.2 = true then (spec_l07Map.l1 kj29 a1 l2 x9_1 ((rd_T89 l0_2 x9_1).f0) t254 (wrap64 (x12_2 + 1)) a0_0 a0_1 l0_2 a1 a0_1 bt267.1) else (some (0, 0, ([] : List (S89)), false)))) else (none)) else (none)) = some (r1, r2, r3, r4) := by rw [if_pos rfl] at H; exact H
                       clear H
                       have H := H1
                       clear H1
                       by_cases c51 : 0 ≤ x12_2
                       ·rw [if_pos c51] at H
                        have c51b0 : decide (0 ≤ x12_2) = true := decide_eq_true c51
                        clear c51
                        by_cases c52 : x12_2 < (t254.length : Int)
                        ·rw [if_pos c52] at H
                         have c52b0 : decide (x12_2 < (t254.length : Int)) = true := decide_eq_true c52
                         clear c52
                         replace H := Option.bind_eq_some_iff.mp H
                         obtain ⟨⟨t267, t270⟩, A530, H⟩ := H
                         replace H : (if t270 = true then (spec_l07Map.l1 kj29 a1 l2 x9_1 ((rd_T89 l0_2 x9_1).f0) t254 (wrap64 (x12_2 + 1)) a0_0 a0_1 l0_2 a1 a0_1 t267) else (some (0, 0, ([] : List (S89)), false))) = some (r1, r2, r3, r4) := H
                         have A53 := Aside0.mk A530
                         clear A530
                         by_cases c54 : t270 = true
                         ·subst c54
                          have H1 : (spec_l07Map.l1 kj29 a1 l2 x9_1 ((rd_T89 l0_2 x9_1).f0) t254 (wrap64 (x12_2 + 1)) a0_0 a0_1 l0_2 a1 a0_1 t267) = some (r1, r2, r3, r4) := by rw [if_pos rfl] at H; exact H
                          clear H
                          have H := H1
                          clear H1
                          have H' := Aside0.mk H
                          clear H
                          try go_wp2
                          replace HO_11 := Aside0.mk (Kd.R_drew HO_11.out)
                          replace HO_253002 := Aside0.mk (Kd.R_drew HO_253002.out)
                          replace BK247 := Aside0.mk (blk_drew BK247.out)
                          replace BK248 := Aside0.mk (blk_drew BK248.out)
                          replace BK252 := Aside0.mk (blk_drew BK252.out)
                          replace BK260 := Aside0.mk (blk_drew BK260.out)
                          replace HB := Aside0.mk (below_drew1 HB.out)
                          refine start_ (n := 17) (S := fun w' => w'.cell? ⟨gb260, 0, none⟩ = some (.int .i64 ((rd_T89 l0_2 x9_1).f1.f0)) ∧ w'.cell? ⟨gb260, 1, none⟩ = some (.int .i64 ((rd_T89 l0_2 x9_1).f1.f1))) (ds := []) #[false, false, false, false, false, false, false, false, false, false, false, false, false, false, false, false, false] (by kernel_rfl) rfl rfl ⟨(blk_cell BK260.out 0).trans rfl, (blk_cell BK260.out 1).trans rfl⟩ (fun hHeld => ?_); refine with_tabW spec_l07Map.tab16 spec_l07Map.bits16 (fun HT_ HW_ => ?_)
                          generalize wc.drew = w55 at HO_11 HO_253002 BK247 BK248 BK252 BK260 HB hHeld ⊢
                          refine zP 0 (N := some 79) (h := ?_)
                          refine zP 2 (N := some 81) (h := ?_)
                          refine zP 3 (N := some 82) (h := ?_)
                          refine zP 4 (N := some 83) (h := ?_)
                          refine zP 6 (N := some 85) (h := ?_)
                          refine zP 8 (N := some 87) (h := ?_)
                          refine zT 1 hHeld (N := some 80) (h := ?_)
                          refine zP 5 (N := some 84) (h := ?_)
                          refine zT 7 hHeld (N := some 86) (h := ?_)
                          refine zP 9 (N := some 88) (h := ?_)
                          refine join_ (σ := Nat) 2 #[true, true, true, true, true, true, true, true, true, true, true, true, true, true, true, false, false] (fun s_ => [(89, .tuple #[.agg #[.int .i64 t262, .int .i64 t263], .bool true]), (16, .pointer (some ⟨s_, 0, none⟩)), (78, .tuple #[.agg #[.int .i64 t262, .int .i64 t263], .bool true]), (90, .agg #[.int .i64 t262, .int .i64 t263]), (91, .bool true)]) (fun s_ w' => (w'.cell? ⟨gb260, 0, none⟩ = some (.int .i64 ((rd_T89 l0_2 x9_1).f1.f0)) ∧ w'.cell? ⟨gb260, 1, none⟩ = some (.int .i64 ((rd_T89 l0_2 x9_1).f1.f1))) ∧ (Kd.R Kd.string 9 w' w.heap.size (fun _ => True) (.slice (some ad257) t254.length co31) t254) ∧ (Kd.R k89 89 w' w.heap.size (fun _ => True) u253002 x253002_2) ∧ (w'.heap[gb247]? = some (.cells #[.int .i64 a0_0, .int .i64 a0_1, .slice (some ad253) l0_2.length c0_2] 32 (0, 0))) ∧ (w'.heap[gb248]? = some (.cells #[.int .i64 x249000_2, .int .i64 x249001_2, .slice none 0 0] 32 (0, 0))) ∧ (w'.heap[gb252]? = some (.cells #[.int .i64 a1, .int .i64 a0_1, u253002] 32 (0, 0))) ∧ (w'.heap[gb260]? = some (.cells #[.int .i64 ((rd_T89 l0_2 x9_1).f1.f0), .int .i64 ((rd_T89 l0_2 x9_1).f1.f1)] 27 (0, 0))) ∧ (w'.heap[s_]? = some (.cells #[.int .i64 0, .int .i64 0] 27 (0, 0))) ∧ (w.heap.size ≤ s_) ∧ (w.heap.size ≤ s_) ∧ (gb247 ≠ s_) ∧ (s_ ≠ gb247) ∧ (gb248 ≠ s_) ∧ (s_ ≠ gb248) ∧ (gb252 ≠ s_) ∧ (s_ ≠ gb252) ∧ (gb260 ≠ s_) ∧ (s_ ≠ gb260) ∧ (Below w.heap.size w w')) ?_ ?_
                          rotate_left
                          ·intro hCont
                           refine two_ (i := 10) (j := 14) (Ni := some 89) (Nj := some 16) #[true, true, true, true, true, true, true, true, true, true, true, false, false, false, false, false, false] #[true, true, true, true, true, true, true, true, true, true, false, false, false, false, true, false, false] rfl rfl rfl rfl (two_of HT_.out (by kernel_rfl)) (by decide) (by decide) (fun K hK => ?_) (fun K hK => ?_)
                           ·skip
                            refine goes_ Try.func129 (by kernel_rfl) rfl #[.int .i64 (wrap64 (((rd_T89 l0_2 x9_1).f1.f0) * (wrap64 (Int.tdiv t258 t261)))), .int .i64 (wrap64 (Int.tdiv ((rd_T89 l0_2 x9_1).f1.f1) t261))] (by rfl) rfl rfl zM ?_
                            with_reducible refine (spec_l01Frac.calls kj29 (wrap64 (((rd_T89 l0_2 x9_1).f1.f0) * (wrap64 (Int.tdiv t258 t261)))) (wrap64 (Int.tdiv ((rd_T89 l0_2 x9_1).f1.f1) t261)) t262 t263 true _ A49.out).mono ?_
                            rintro e w56 ⟨rfl, hb⟩
                            refine ⟨_, rfl, ?_⟩
                            replace HO_11 := Aside0.mk (Kd.R_below HO_11.out hb)
                            replace HO_253002 := Aside0.mk (Kd.R_below HO_253002.out hb)
                            replace BK247 := Aside0.mk (zW BK247 hb)
                            replace BK248 := Aside0.mk (zW BK248 hb)
                            replace BK252 := Aside0.mk (zW BK252 hb)
                            replace BK260 := Aside0.mk (zW BK260 hb)
                            replace HB := Aside0.mk (below_step zB hb)
                            (try clear hb)
                            (try clear hb2)
                            (try clear hk)
                            (try clear hi)
                            refine hK.out _ _ ⟨(blk_cell BK260.out 0).trans rfl, (blk_cell BK260.out 1).trans rfl⟩ (fun hHeld => ?_)
                            clear hK K
                            refine norm_ (a' := ?_) ?_ ?_
                            rotate_left
                            ·show Act.put _ (some 89) _ = _
                             simp only [Act.put, List.setIfInBounds_toArray, List.set_cons_zero, List.set_cons_succ, i64_w, i32_w]
                             rfl
                            refine zP 11 (N := some 78) (h := ?_)
                            refine zP 12 (N := some 90) (h := ?_)
                            refine zP 13 (N := some 91) (h := ?_)
                            refine one_ (i := 14) (N := some 16) #[true, true, true, true, true, true, true, true, true, true, true, true, true, true, true, false, false] rfl rfl (one_of HT_.out (by kernel_rfl)) (by decide) (fun K hK => ?_)
                            refine box_step ?hg (N := 16) ?hd (cs := #[.int .i64 0, .int .i64 0]) (t := 27) ?hr ?_; (case hd => rfl); (case hg => rfl); (case hr => first | (go_simp; done) | (go_simp; rfl))
                            intro gb265 hg w57 hbox hb
                            have BK265 := Aside0.mk (hbox)
                            have GW265 := Aside0.mk (zG : w.heap.size ≤ gb265)
                            have GE265 := Aside0.mk (zG : w.heap.size ≤ gb265)
                            have NB247_265 := Aside0.mk (zU BK247 hg)
                            have NB265_247 := Aside0.mk (zV BK247 hg)
                            have NB248_265 := Aside0.mk (zU BK248 hg)
                            have NB265_248 := Aside0.mk (zV BK248 hg)
                            have NB252_265 := Aside0.mk (zU BK252 hg)
                            have NB265_252 := Aside0.mk (zV BK252 hg)
                            have NB260_265 := Aside0.mk (zU BK260 hg)
                            have NB265_260 := Aside0.mk (zV BK260 hg)
                            replace HO_11 := Aside0.mk (Kd.R_below HO_11.out hb)
                            replace HO_253002 := Aside0.mk (Kd.R_below HO_253002.out hb)
                            replace BK247 := Aside0.mk (zW BK247 hb)
                            replace BK248 := Aside0.mk (zW BK248 hb)
                            replace BK252 := Aside0.mk (zW BK252 hb)
                            replace BK260 := Aside0.mk (zW BK260 hb)
                            replace HB := Aside0.mk (below_step zB hb)
                            clear hb hbox hg
                            refine hK.out _ _ ⟨(blk_cell BK260.out 0).trans rfl, (blk_cell BK260.out 1).trans rfl⟩ (fun hHeld => ?_)
                            clear hK K
                            refine norm_ (a' := ?_) ?_ ?_
                            rotate_left
                            ·show Act.put _ (some 16) _ = _
                             simp only [Act.put, List.setIfInBounds_toArray, List.set_cons_zero, List.set_cons_succ, i64_w, i32_w]
                             rfl
                            exact norm_ (by simp only [putAll, Act.put, List.setIfInBounds_toArray, List.set_cons_zero, List.set_cons_succ]) (hCont (gb265) _ ⟨hHeld, zR, zR, zK, zK, zK, zK, zK, GW265.out, GE265.out, NB247_265.out, NB265_247.out, NB248_265.out, NB265_248.out, NB252_265.out, NB265_252.out, NB260_265.out, NB265_260.out, zB⟩)
                           ·skip
                            refine box_step ?hg (N := 16) ?hd (cs := #[.int .i64 0, .int .i64 0]) (t := 27) ?hr ?_; (case hd => rfl); (case hg => rfl); (case hr => first | (go_simp; done) | (go_simp; rfl))
                            intro gb265 hg w56 hbox hb
                            have BK265 := Aside0.mk (hbox)
                            have GW265 := Aside0.mk (zG : w.heap.size ≤ gb265)
                            have GE265 := Aside0.mk (zG : w.heap.size ≤ gb265)
                            have NB247_265 := Aside0.mk (zU BK247 hg)
                            have NB265_247 := Aside0.mk (zV BK247 hg)
                            have NB248_265 := Aside0.mk (zU BK248 hg)
                            have NB265_248 := Aside0.mk (zV BK248 hg)
                            have NB252_265 := Aside0.mk (zU BK252 hg)
                            have NB265_252 := Aside0.mk (zV BK252 hg)
                            have NB260_265 := Aside0.mk (zU BK260 hg)
                            have NB265_260 := Aside0.mk (zV BK260 hg)
                            replace HO_11 := Aside0.mk (Kd.R_below HO_11.out hb)
                            replace HO_253002 := Aside0.mk (Kd.R_below HO_253002.out hb)
                            replace BK247 := Aside0.mk (zW BK247 hb)
                            replace BK248 := Aside0.mk (zW BK248 hb)
                            replace BK252 := Aside0.mk (zW BK252 hb)
                            replace BK260 := Aside0.mk (zW BK260 hb)
                            replace HB := Aside0.mk (below_step zB hb)
                            clear hb hbox hg
                            refine hK.out _ _ ⟨(blk_cell BK260.out 0).trans rfl, (blk_cell BK260.out 1).trans rfl⟩ (fun hHeld => ?_)
                            clear hK K
                            refine norm_ (a' := ?_) ?_ ?_
                            rotate_left
                            ·show Act.put _ (some 16) _ = _
                             simp only [Act.put, List.setIfInBounds_toArray, List.set_cons_zero, List.set_cons_succ, i64_w, i32_w]
                             rfl
                            refine one_ (i := 10) (N := some 89) #[true, true, true, true, true, true, true, true, true, true, true, false, false, false, true, false, false] rfl rfl (one_of HT_.out (by kernel_rfl)) (by decide) (fun K hK => ?_)
                            refine goes_ Try.func129 (by kernel_rfl) rfl #[.int .i64 (wrap64 (((rd_T89 l0_2 x9_1).f1.f0) * (wrap64 (Int.tdiv t258 t261)))), .int .i64 (wrap64 (Int.tdiv ((rd_T89 l0_2 x9_1).f1.f1) t261))] (by rfl) rfl rfl zM ?_
                            with_reducible refine (spec_l01Frac.calls kj29 (wrap64 (((rd_T89 l0_2 x9_1).f1.f0) * (wrap64 (Int.tdiv t258 t261)))) (wrap64 (Int.tdiv ((rd_T89 l0_2 x9_1).f1.f1) t261)) t262 t263 true _ A49.out).mono ?_
                            rintro e w57 ⟨rfl, hb⟩
                            refine ⟨_, rfl, ?_⟩
                            replace HO_11 := Aside0.mk (Kd.R_below HO_11.out hb)
                            replace HO_253002 := Aside0.mk (Kd.R_below HO_253002.out hb)
                            replace BK247 := Aside0.mk (zW BK247 hb)
                            replace BK248 := Aside0.mk (zW BK248 hb)
                            replace BK252 := Aside0.mk (zW BK252 hb)
                            replace BK260 := Aside0.mk (zW BK260 hb)
                            replace BK265 := Aside0.mk (zW BK265 hb)
                            replace HB := Aside0.mk (below_step zB hb)
                            (try clear hb)
                            (try clear hb2)
                            (try clear hk)
                            (try clear hi)
                            refine hK.out _ _ ⟨(blk_cell BK260.out 0).trans rfl, (blk_cell BK260.out 1).trans rfl⟩ (fun hHeld => ?_)
                            clear hK K
                            refine norm_ (a' := ?_) ?_ ?_
                            rotate_left
                            ·show Act.put _ (some 89) _ = _
                             simp only [Act.put, List.setIfInBounds_toArray, List.set_cons_zero, List.set_cons_succ, i64_w, i32_w]
                             rfl
                            refine zP 11 (N := some 78) (h := ?_)
                            refine zP 12 (N := some 90) (h := ?_)
                            refine zP 13 (N := some 91) (h := ?_)
                            exact norm_ (by simp only [putAll, Act.put, List.setIfInBounds_toArray, List.set_cons_zero, List.set_cons_succ]) (hCont (gb265) _ ⟨hHeld, zR, zR, zK, zK, zK, zK, zK, GW265.out, GE265.out, NB247_265.out, NB265_247.out, NB248_265.out, NB265_248.out, NB252_265.out, NB265_252.out, NB260_265.out, NB265_260.out, zB⟩)
                          rintro gb265 w58 ⟨hS_, h0_, h1_, h2_, h3_, h4_, h5_, h6_, h7_, h8_, h9_, h10_, h11_, h12_, h13_, h14_, h15_, h16_, h17_⟩
                          have BK265 : Aside0 (w58.heap[gb265]? = some (.cells #[.int .i64 0, .int .i64 0] 27 (0, 0))) := ⟨h6_⟩
                          have GW265 : Aside0 (w.heap.size ≤ gb265) := ⟨h7_⟩
                          have GE265 : Aside0 (w.heap.size ≤ gb265) := ⟨h8_⟩
                          have NB247_265 : Aside0 (gb247 ≠ gb265) := ⟨h9_⟩
                          have NB265_247 : Aside0 (gb265 ≠ gb247) := ⟨h10_⟩
                          have NB248_265 : Aside0 (gb248 ≠ gb265) := ⟨h11_⟩
                          have NB265_248 : Aside0 (gb265 ≠ gb248) := ⟨h12_⟩
                          have NB252_265 : Aside0 (gb252 ≠ gb265) := ⟨h13_⟩
                          have NB265_252 : Aside0 (gb265 ≠ gb252) := ⟨h14_⟩
                          have NB260_265 : Aside0 (gb260 ≠ gb265) := ⟨h15_⟩
                          have NB265_260 : Aside0 (gb265 ≠ gb260) := ⟨h16_⟩
                          replace HO_11 : Aside0 (Kd.R Kd.string 9 w58 w.heap.size (fun _ => True) (.slice (some ad257) t254.length co31) t254) := ⟨h0_⟩
                          replace HO_253002 : Aside0 (Kd.R k89 89 w58 w.heap.size (fun _ => True) u253002 x253002_2) := ⟨h1_⟩
                          replace BK247 : Aside0 (w58.heap[gb247]? = some (.cells #[.int .i64 a0_0, .int .i64 a0_1, .slice (some ad253) l0_2.length c0_2] 32 (0, 0))) := ⟨h2_⟩
                          replace BK248 : Aside0 (w58.heap[gb248]? = some (.cells #[.int .i64 x249000_2, .int .i64 x249001_2, .slice none 0 0] 32 (0, 0))) := ⟨h3_⟩
                          replace BK252 : Aside0 (w58.heap[gb252]? = some (.cells #[.int .i64 a1, .int .i64 a0_1, u253002] 32 (0, 0))) := ⟨h4_⟩
                          replace BK260 : Aside0 (w58.heap[gb260]? = some (.cells #[.int .i64 ((rd_T89 l0_2 x9_1).f1.f0), .int .i64 ((rd_T89 l0_2 x9_1).f1.f1)] 27 (0, 0))) := ⟨h5_⟩
                          replace HB : Aside0 (Below w.heap.size w w58) := ⟨h17_⟩
                          clear h0_ h1_ h2_ h3_ h4_ h5_ h6_ h7_ h8_ h9_ h10_ h11_ h12_ h13_ h14_ h15_ h16_ h17_
                          have hHeld : w58.cell? ⟨gb260, 0, none⟩ = some (.int .i64 ((rd_T89 l0_2 x9_1).f1.f0)) ∧ w58.cell? ⟨gb260, 1, none⟩ = some (.int .i64 ((rd_T89 l0_2 x9_1).f1.f1)) := hS_
                          refine norm_ (a' := ?_) ?_ ?_
                          rotate_left
                          ·simp only [putAll, Act.put, List.setIfInBounds_toArray, List.set_cons_zero, List.set_cons_succ]
                           rfl
                          refine one_ (i := 15) (N := none) #[true, true, true, true, true, true, true, true, true, true, true, true, true, true, true, true, false] rfl rfl (one_of HT_.out (by kernel_rfl)) (by decide) (fun K hK => ?_)
                          have hs59 : w58.cell? ⟨gb265, 0, none⟩ = some (.int .i64 0) := (blk_cell BK265.out 0).trans rfl
                          have hfs59 := blk_frozen BK265.out 0
                          have hns59_0 := NB247_265.out
                          have hns59_1 := NB248_265.out
                          have hns59_2 := NB252_265.out
                          have hns59_3 := NB260_265.out
                          have hms59_0 := NB265_247.out
                          have hms59_1 := NB265_248.out
                          have hms59_2 := NB265_252.out
                          have hms59_3 := NB265_260.out
                          have hs60 : w58.cell? ⟨gb265, 1, none⟩ = some (.int .i64 0) := (blk_cell BK265.out 1).trans rfl
                          have hfs60 := blk_frozen BK265.out 1
                          have hns60_0 := NB247_265.out
                          have hns60_1 := NB248_265.out
                          have hns60_2 := NB252_265.out
                          have hns60_3 := NB260_265.out
                          have hms60_0 := NB265_247.out
                          have hms60_1 := NB265_248.out
                          have hms60_2 := NB265_252.out
                          have hms60_3 := NB265_260.out
                          refine skip_ (w1 := ?_) (by rfl) rfl ?_ ?_
                          rotate_left
                          ·go_simp
                           rfl
                          refine hK.out _ _ ⟨((cell_far (p := ⟨gb265, _, none⟩) NB260_265.out _).trans (((cell_far (p := ⟨gb265, _, none⟩) NB260_265.out _).trans (hHeld.1)))), ((cell_far (p := ⟨gb265, _, none⟩) NB260_265.out _).trans (((cell_far (p := ⟨gb265, _, none⟩) NB260_265.out _).trans (hHeld.2))))⟩ (fun hHeld => ?_)
                          clear hK K
                          refine zP 16 (N := some 17) (h := ?_)
                          refine done_ (done_of HT_.out (by kernel_rfl)) ?_
                          try go_wp2
                          have n0_ : Aside0 (Kd.R Kd.string 9 ((w58.setCell ⟨gb265, 0, none⟩ (.int .i64 t262)).setCell ⟨gb265, 1, none⟩ (.int .i64 t263)) w.heap.size (fun _ => True) (.slice (some ad257) t254.length co31) t254) := ⟨by (with_reducible repeat (first | apply Kd.R_alloc | apply Kd.R_drewN | apply Kd.R_drew)); exact Kd.R_mono (Kd.R_far (p := ⟨gb265, 1, none⟩) (Kd.R_far (p := ⟨gb265, 0, none⟩) (Kd.R_types HO_11.out BK265.out (by decide)) (fun _ hk => hk.2) (.int .i64 t262)) (fun _ hk => hk.2) (.int .i64 t263)) (fun _ hk => trivial)⟩
                          have n1_ : Aside0 (Kd.R k89 89 ((w58.setCell ⟨gb265, 0, none⟩ (.int .i64 t262)).setCell ⟨gb265, 1, none⟩ (.int .i64 t263)) w.heap.size (fun _ => True) u253002 x253002_2) := ⟨by (with_reducible repeat (first | apply Kd.R_alloc | apply Kd.R_drewN | apply Kd.R_drew)); exact Kd.R_mono (Kd.R_far (p := ⟨gb265, 1, none⟩) (Kd.R_far (p := ⟨gb265, 0, none⟩) (Kd.R_types HO_253002.out BK265.out (by decide)) (fun _ hk => hk.2) (.int .i64 t262)) (fun _ hk => hk.2) (.int .i64 t263)) (fun _ hk => trivial)⟩
                          have n2_ : Aside0 (((w58.setCell ⟨gb265, 0, none⟩ (.int .i64 t262)).setCell ⟨gb265, 1, none⟩ (.int .i64 t263)).heap[gb247]? = some (.cells #[.int .i64 a0_0, .int .i64 a0_1, .slice (some ad253) l0_2.length c0_2] 32 (0, 0))) := ⟨by (with_reducible repeat (first | refine blk_drewN ?_ _ | refine blk_drew ?_ | refine blk_alloc ?_ _)); refine blk_far ?_ NB247_265.out _; (with_reducible repeat (first | refine blk_drewN ?_ _ | refine blk_drew ?_ | refine blk_alloc ?_ _)); refine blk_far ?_ NB247_265.out _; (with_reducible repeat (first | refine blk_drewN ?_ _ | refine blk_drew ?_ | refine blk_alloc ?_ _)); exact BK247.out⟩
                          have n3_ : Aside0 (((w58.setCell ⟨gb265, 0, none⟩ (.int .i64 t262)).setCell ⟨gb265, 1, none⟩ (.int .i64 t263)).heap[gb248]? = some (.cells #[.int .i64 x249000_2, .int .i64 x249001_2, .slice none 0 0] 32 (0, 0))) := ⟨by (with_reducible repeat (first | refine blk_drewN ?_ _ | refine blk_drew ?_ | refine blk_alloc ?_ _)); refine blk_far ?_ NB248_265.out _; (with_reducible repeat (first | refine blk_drewN ?_ _ | refine blk_drew ?_ | refine blk_alloc ?_ _)); refine blk_far ?_ NB248_265.out _; (with_reducible repeat (first | refine blk_drewN ?_ _ | refine blk_drew ?_ | refine blk_alloc ?_ _)); exact BK248.out⟩
                          have n4_ : Aside0 (((w58.setCell ⟨gb265, 0, none⟩ (.int .i64 t262)).setCell ⟨gb265, 1, none⟩ (.int .i64 t263)).heap[gb252]? = some (.cells #[.int .i64 a1, .int .i64 a0_1, u253002] 32 (0, 0))) := ⟨by (with_reducible repeat (first | refine blk_drewN ?_ _ | refine blk_drew ?_ | refine blk_alloc ?_ _)); refine blk_far ?_ NB252_265.out _; (with_reducible repeat (first | refine blk_drewN ?_ _ | refine blk_drew ?_ | refine blk_alloc ?_ _)); refine blk_far ?_ NB252_265.out _; (with_reducible repeat (first | refine blk_drewN ?_ _ | refine blk_drew ?_ | refine blk_alloc ?_ _)); exact BK252.out⟩
                          have n5_ : Aside0 (((w58.setCell ⟨gb265, 0, none⟩ (.int .i64 t262)).setCell ⟨gb265, 1, none⟩ (.int .i64 t263)).heap[gb260]? = some (.cells #[.int .i64 ((rd_T89 l0_2 x9_1).f1.f0), .int .i64 ((rd_T89 l0_2 x9_1).f1.f1)] 27 (0, 0))) := ⟨by (with_reducible repeat (first | refine blk_drewN ?_ _ | refine blk_drew ?_ | refine blk_alloc ?_ _)); refine blk_far ?_ NB260_265.out _; (with_reducible repeat (first | refine blk_drewN ?_ _ | refine blk_drew ?_ | refine blk_alloc ?_ _)); refine blk_far ?_ NB260_265.out _; (with_reducible repeat (first | refine blk_drewN ?_ _ | refine blk_drew ?_ | refine blk_alloc ?_ _)); exact BK260.out⟩
                          have n6_ : Aside0 (((w58.setCell ⟨gb265, 0, none⟩ (.int .i64 t262)).setCell ⟨gb265, 1, none⟩ (.int .i64 t263)).heap[gb265]? = some (.cells #[.int .i64 t262, .int .i64 t263] 27 (0, 0))) := ⟨by (with_reducible repeat (first | refine blk_drewN ?_ _ | refine blk_drew ?_ | refine blk_alloc ?_ _)); refine blk_put (cs := #[.int .i64 t262, .int .i64 0]) ?_ 1 _ rfl; (with_reducible repeat (first | refine blk_drewN ?_ _ | refine blk_drew ?_ | refine blk_alloc ?_ _)); refine blk_put (cs := #[.int .i64 0, .int .i64 0]) ?_ 0 _ rfl; (with_reducible repeat (first | refine blk_drewN ?_ _ | refine blk_drew ?_ | refine blk_alloc ?_ _)); exact BK265.out⟩
                          have n7_ : Aside0 (Below w.heap.size w ((w58.setCell ⟨gb265, 0, none⟩ (.int .i64 t262)).setCell ⟨gb265, 1, none⟩ (.int .i64 t263))) := ⟨zB⟩
                          (try clear HO_11)
                          (try clear HO_253002)
                          (try clear BK247)
                          (try clear BK248)
                          (try clear BK252)
                          (try clear BK260)
                          (try clear BK265)
                          (try clear HB)
                          generalize ((w58.setCell ⟨gb265, 0, none⟩ (.int .i64 t262)).setCell ⟨gb265, 1, none⟩ (.int .i64 t263)) = w61 at n0_ n1_ n2_ n3_ n4_ n5_ n6_ n7_ ⊢
                          have HO_11 := n0_
                          have HO_253002 := n1_
                          have BK247 := n2_
                          have BK248 := n3_
                          have BK252 := n4_
                          have BK260 := n5_
                          have BK265 := n6_
                          have HB := n7_
                          clear n0_ n1_ n2_ n3_ n4_ n5_ n6_ n7_
                          replace HO_11 := Aside0.mk (Kd.R_drew HO_11.out)
                          replace HO_253002 := Aside0.mk (Kd.R_drew HO_253002.out)
                          replace BK247 := Aside0.mk (blk_drew BK247.out)
                          replace BK248 := Aside0.mk (blk_drew BK248.out)
                          replace BK252 := Aside0.mk (blk_drew BK252.out)
                          replace BK260 := Aside0.mk (blk_drew BK260.out)
                          replace BK265 := Aside0.mk (blk_drew BK265.out)
                          replace HB := Aside0.mk (below_drew1 HB.out)
                          have p266 : 0 ≤ (x12_2 : Int) := zD
                          have q266 : x12_2 < (t254.length : Int) := zD
                          obtain ⟨ad266, e266, hx266_0⟩ := Kd.at_string (Kd.R_reads' HO_11.out).2.2 x12_2 p266 q266
                          obtain rfl : ad257 = ad266 := (by injection e266)
                          replace p266 := eq_true p266
                          replace q266 := eq_true q266
                          obtain ⟨Ao63, co63, eo63⟩ := Kd.R_slice HO_253002.out
                          (first | subst eo63 | (injection eo63 with f1_ f2_ f3_; have f4_ := f1_.symm; have f5_ := f3_.symm; clear f1_ f2_ f3_; subst f4_; subst f5_))
                          refine start_ (n := 13) (S := fun w' => w'.cell? ⟨gb252, 0, none⟩ = some (.int .i64 a1) ∧ w'.cell? ⟨gb252, 1, none⟩ = some (.int .i64 a0_1) ∧ w'.cell? ⟨gb252, 2, none⟩ = some (.slice Ao63 x253002_2.length co63) ∧ w'.cell? ⟨gb265, 0, none⟩ = some (.int .i64 t262) ∧ w'.cell? ⟨gb265, 1, none⟩ = some (.int .i64 t263) ∧ w'.cell? (ad257.add (x12_2).toNat) = some (.string (rdOf ByteArray.empty t254 x12_2))) (ds := []) #[false, false, false, false, false, false, false, false, false, false, false, false, false] (by kernel_rfl) rfl rfl ⟨(blk_cell BK252.out 0).trans rfl, (blk_cell BK252.out 1).trans rfl, (blk_cell BK252.out 2).trans rfl, (blk_cell BK265.out 0).trans rfl, (blk_cell BK265.out 1).trans rfl, hx266_0⟩ (fun hHeld => ?_); refine with_tabW spec_l07Map.tab19 spec_l07Map.bits19 (fun HT_ HW_ => ?_)
                          generalize w61.drew = w62 at HO_11 HO_253002 BK247 BK248 BK252 BK260 BK265 HB hx266_0 hHeld ⊢
                          refine zP 0 (N := some 96) (h := ?_)
                          refine zP 2 (N := some 98) (h := ?_)
                          refine zP 3 (N := some 99) (h := ?_)
                          refine zP 4 (N := some 100) (h := ?_)
                          refine zT 1 hHeld (N := some 97) (h := ?_)
                          refine zT 5 hHeld (N := some 101) (h := ?_)
                          refine zT 6 hHeld (N := some 102) (h := ?_)
                          refine one_ (i := 7) (N := some 103) #[true, true, true, true, true, true, true, true, false, false, false, false, false] rfl rfl (one_of HT_.out (by kernel_rfl)) (by decide) (fun K hK => ?_)
                          refine goes_ Try.func93 (by kernel_rfl) rfl #[.slice Ao63 x253002_2.length co63, .string (rdOf ByteArray.empty t254 x12_2), .agg #[.int .i64 t262, .int .i64 t263]] (by rfl) rfl rfl zM ?_
                          with_reducible refine (spec_l01Put.calls kj29 _ _ x253002_2 (rdOf ByteArray.empty t254 x12_2) t262 t263 t267 true _ ?side1 ?side2 A53.out).mono ?_
                          (case side1 => repeat (first | exact (Kd.R_reads' HO_253002.out).2.2 | (with_reducible refine Kd.C_alloc ?_ _) | (with_reducible refine Kd.C_drewN ?_ _) | (with_reducible refine Kd.C_drew ?_)))
                          (case side2 => exact (Kd.R_reads' HO_253002.out).2.1)
                          rintro e w64 ⟨v268, rfl, ho0, hb⟩
                          have HS5_ := (hb.cell (World.block_lt_of_cell? _ _ (hHeld.2.2.2.2.2))).trans (hHeld.2.2.2.2.2)
                          refine ⟨_, rfl, ?_⟩
                          have HO269 := Aside0.mk (Kd.R_lower (Kd.R_new' ho0 (Kd.R_lt HO_253002.out)) (below_size zB))
                          replace HO_11 := Aside0.mk (Kd.R_below HO_11.out hb)
                          replace HO_253002 := Aside0.mk (Kd.R_elder' zR (Kd.R_base ho0) hb)
                          replace BK247 := Aside0.mk (zW BK247 hb)
                          replace BK248 := Aside0.mk (zW BK248 hb)
                          replace BK252 := Aside0.mk (zW BK252 hb)
                          replace BK260 := Aside0.mk (zW BK260 hb)
                          replace BK265 := Aside0.mk (zW BK265 hb)
                          replace HB := Aside0.mk (below_step zB hb)
                          (try clear hb)
                          (try clear hb2)
                          (try clear hk)
                          (try clear hi)
                          (try clear ho0)
                          refine hK.out _ _ ⟨(blk_cell BK252.out 0).trans rfl, (blk_cell BK252.out 1).trans rfl, (blk_cell BK252.out 2).trans rfl, (blk_cell BK265.out 0).trans rfl, (blk_cell BK265.out 1).trans rfl, HS5_⟩ (fun hHeld => ?_)
                          clear hK K
                          refine norm_ (a' := ?_) ?_ ?_
                          rotate_left
                          ·show Act.put _ (some 103) _ = _
                           simp only [Act.put, List.setIfInBounds_toArray, List.set_cons_zero, List.set_cons_succ, i64_w, i32_w]
                           rfl
                          refine zP 8 (N := some 95) (h := ?_)
                          refine zP 9 (N := some 104) (h := ?_)
                          refine zP 10 (N := some 105) (h := ?_)
                          refine zP 11 (N := some 18) (h := ?_)
                          refine zP 12 (N := some 19) (h := ?_)
                          refine done_ (done_of HT_.out (by kernel_rfl)) ?_
                          obtain ⟨Ao65, co65, eo65⟩ := Kd.R_slice HO269.out
                          subst eo65
                          have hnb66 := NB252_247.out
                          have hnc66 := NB247_252.out
                          have hnb67 := NB252_248.out
                          have hnc67 := NB248_252.out
                          have hnb68 := NB252_260.out
                          have hnc68 := NB260_252.out
                          have hnb69 := NB252_265.out
                          have hnc69 := NB265_252.out
                          obtain ⟨hcz70_0, hcz70_1, hcz70_2, hfz70_0, hfz70_1, hfz70_2⟩ := zC3 BK252
                          try go_wp2
                          go_roundg kj29
                          case measure => have := HK1.out; have := HK2.out; have := HJ29.out; omega
                          case rel => exact ⟨(wrap64 (x12_2 + 1)), (x249000_2), (x249001_2), (t267), (.slice Ao65 t267.length co65), (by first | rfl | (simp; done) | (simp [*]; done)), H', ⟨by have := HK1.out; have := HK2.out; have := HJ29.out; omega⟩, ⟨by (with_reducible repeat (first | apply Kd.R_alloc | apply Kd.R_drewN | apply Kd.R_drew)); exact Kd.R_mono (Kd.R_far (p := ⟨gb252, 2, none⟩) (Kd.R_types HO_11.out BK252.out (by decide)) (fun _ hk => hk.2) (.slice Ao65 t267.length co65)) (fun _ hk => trivial)⟩, ⟨by (with_reducible repeat (first | apply Kd.R_alloc | apply Kd.R_drewN | apply Kd.R_drew)); exact Kd.R_mono (Kd.R_far (p := ⟨gb252, 2, none⟩) (Kd.R_types HO269.out BK252.out (by decide)) (fun _ hk => hk.2) (.slice Ao65 t267.length co65)) (fun _ hk => trivial)⟩, ⟨by (with_reducible repeat (first | refine blk_drewN ?_ _ | refine blk_drew ?_ | refine blk_alloc ?_ _)); refine blk_far ?_ NB247_252.out _; (with_reducible repeat (first | refine blk_drewN ?_ _ | refine blk_drew ?_ | refine blk_alloc ?_ _)); exact BK247.out⟩, ⟨by (with_reducible repeat (first | refine blk_drewN ?_ _ | refine blk_drew ?_ | refine blk_alloc ?_ _)); refine blk_far ?_ NB248_252.out _; (with_reducible repeat (first | refine blk_drewN ?_ _ | refine blk_drew ?_ | refine blk_alloc ?_ _)); exact BK248.out⟩, ⟨by (with_reducible repeat (first | refine blk_drewN ?_ _ | refine blk_drew ?_ | refine blk_alloc ?_ _)); refine blk_put (cs := #[.int .i64 a1, .int .i64 a0_1, .slice Ao63 x253002_2.length co63]) ?_ 2 _ rfl; (with_reducible repeat (first | refine blk_drewN ?_ _ | refine blk_drew ?_ | refine blk_alloc ?_ _)); exact BK252.out⟩, ⟨zB⟩⟩
                         ·replace c54 := Bool.eq_false_iff.mpr c54
                          subst c54
                          have H1 : (some (0, 0, ([] : List (S89)), false)) = some (r1, r2, r3, r4) := by rw [if_neg (show ¬ (false = true) by decide)] at H; exact H
                          clear H
                          have H := H1
                          clear H1
                          simp only [Option.some.injEq, Prod.mk.injEq] at H
                          obtain ⟨rfl, rfl, rfl, rfl⟩ := H
                          try go_wp2
                          replace HO_11 := Aside0.mk (Kd.R_drew HO_11.out)
                          replace HO_253002 := Aside0.mk (Kd.R_drew HO_253002.out)
                          replace BK247 := Aside0.mk (blk_drew BK247.out)
                          replace BK248 := Aside0.mk (blk_drew BK248.out)
                          replace BK252 := Aside0.mk (blk_drew BK252.out)
                          replace BK260 := Aside0.mk (blk_drew BK260.out)
                          replace HB := Aside0.mk (below_drew1 HB.out)
                          refine start_ (n := 17) (S := fun w' => w'.cell? ⟨gb260, 0, none⟩ = some (.int .i64 ((rd_T89 l0_2 x9_1).f1.f0)) ∧ w'.cell? ⟨gb260, 1, none⟩ = some (.int .i64 ((rd_T89 l0_2 x9_1).f1.f1))) (ds := []) #[false, false, false, false, false, false, false, false, false, false, false, false, false, false, false, false, false] (by kernel_rfl) rfl rfl ⟨(blk_cell BK260.out 0).trans rfl, (blk_cell BK260.out 1).trans rfl⟩ (fun hHeld => ?_); refine with_tabW spec_l07Map.tab16 spec_l07Map.bits16 (fun HT_ HW_ => ?_)
                          generalize wc.drew = w71 at HO_11 HO_253002 BK247 BK248 BK252 BK260 HB hHeld ⊢
                          refine zP 0 (N := some 79) (h := ?_)
                          refine zP 2 (N := some 81) (h := ?_)
                          refine zP 3 (N := some 82) (h := ?_)
                          refine zP 4 (N := some 83) (h := ?_)
                          refine zP 6 (N := some 85) (h := ?_)
                          refine zP 8 (N := some 87) (h := ?_)
                          refine zT 1 hHeld (N := some 80) (h := ?_)
                          refine zP 5 (N := some 84) (h := ?_)
                          refine zT 7 hHeld (N := some 86) (h := ?_)
                          refine zP 9 (N := some 88) (h := ?_)
                          refine join_ (σ := Nat) 2 #[true, true, true, true, true, true, true, true, true, true, true, true, true, true, true, false, false] (fun s_ => [(89, .tuple #[.agg #[.int .i64 t262, .int .i64 t263], .bool true]), (16, .pointer (some ⟨s_, 0, none⟩)), (78, .tuple #[.agg #[.int .i64 t262, .int .i64 t263], .bool true]), (90, .agg #[.int .i64 t262, .int .i64 t263]), (91, .bool true)]) (fun s_ w' => (w'.cell? ⟨gb260, 0, none⟩ = some (.int .i64 ((rd_T89 l0_2 x9_1).f1.f0)) ∧ w'.cell? ⟨gb260, 1, none⟩ = some (.int .i64 ((rd_T89 l0_2 x9_1).f1.f1))) ∧ (Kd.R Kd.string 9 w' w.heap.size (fun _ => True) (.slice (some ad257) t254.length co31) t254) ∧ (Kd.R k89 89 w' w.heap.size (fun _ => True) u253002 x253002_2) ∧ (w'.heap[gb247]? = some (.cells #[.int .i64 a0_0, .int .i64 a0_1, .slice (some ad253) l0_2.length c0_2] 32 (0, 0))) ∧ (w'.heap[gb248]? = some (.cells #[.int .i64 x249000_2, .int .i64 x249001_2, .slice none 0 0] 32 (0, 0))) ∧ (w'.heap[gb252]? = some (.cells #[.int .i64 a1, .int .i64 a0_1, u253002] 32 (0, 0))) ∧ (w'.heap[gb260]? = some (.cells #[.int .i64 ((rd_T89 l0_2 x9_1).f1.f0), .int .i64 ((rd_T89 l0_2 x9_1).f1.f1)] 27 (0, 0))) ∧ (w'.heap[s_]? = some (.cells #[.int .i64 0, .int .i64 0] 27 (0, 0))) ∧ (w.heap.size ≤ s_) ∧ (w.heap.size ≤ s_) ∧ (gb247 ≠ s_) ∧ (s_ ≠ gb247) ∧ (gb248 ≠ s_) ∧ (s_ ≠ gb248) ∧ (gb252 ≠ s_) ∧ (s_ ≠ gb252) ∧ (gb260 ≠ s_) ∧ (s_ ≠ gb260) ∧ (Below w.heap.size w w')) ?_ ?_
                          rotate_left
                          ·intro hCont
                           refine two_ (i := 10) (j := 14) (Ni := some 89) (Nj := some 16) #[true, true, true, true, true, true, true, true, true, true, true, false, false, false, false, false, false] #[true, true, true, true, true, true, true, true, true, true, false, false, false, false, true, false, false] rfl rfl rfl rfl (two_of HT_.out (by kernel_rfl)) (by decide) (by decide) (fun K hK => ?_) (fun K hK => ?_)
                           ·skip
                            refine goes_ Try.func129 (by kernel_rfl) rfl #[.int .i64 (wrap64 (((rd_T89 l0_2 x9_1).f1.f0) * (wrap64 (Int.tdiv t258 t261)))), .int .i64 (wrap64 (Int.tdiv ((rd_T89 l0_2 x9_1).f1.f1) t261))] (by rfl) rfl rfl zM ?_
                            with_reducible refine (spec_l01Frac.calls kj29 (wrap64 (((rd_T89 l0_2 x9_1).f1.f0) * (wrap64 (Int.tdiv t258 t261)))) (wrap64 (Int.tdiv ((rd_T89 l0_2 x9_1).f1.f1) t261)) t262 t263 true _ A49.out).mono ?_
                            rintro e w72 ⟨rfl, hb⟩
                            refine ⟨_, rfl, ?_⟩
                            replace HO_11 := Aside0.mk (Kd.R_below HO_11.out hb)
                            replace HO_253002 := Aside0.mk (Kd.R_below HO_253002.out hb)
                            replace BK247 := Aside0.mk (zW BK247 hb)
                            replace BK248 := Aside0.mk (zW BK248 hb)
                            replace BK252 := Aside0.mk (zW BK252 hb)
                            replace BK260 := Aside0.mk (zW BK260 hb)
                            replace HB := Aside0.mk (below_step zB hb)
                            (try clear hb)
                            (try clear hb2)
                            (try clear hk)
                            (try clear hi)
                            refine hK.out _ _ ⟨(blk_cell BK260.out 0).trans rfl, (blk_cell BK260.out 1).trans rfl⟩ (fun hHeld => ?_)
                            clear hK K
                            refine norm_ (a' := ?_) ?_ ?_
                            rotate_left
                            ·show Act.put _ (some 89) _ = _
                             simp only [Act.put, List.setIfInBounds_toArray, List.set_cons_zero, List.set_cons_succ, i64_w, i32_w]
                             rfl
                            refine zP 11 (N := some 78) (h := ?_)
                            refine zP 12 (N := some 90) (h := ?_)
                            refine zP 13 (N := some 91) (h := ?_)
                            refine one_ (i := 14) (N := some 16) #[true, true, true, true, true, true, true, true, true, true, true, true, true, true, true, false, false] rfl rfl (one_of HT_.out (by kernel_rfl)) (by decide) (fun K hK => ?_)
                            refine box_step ?hg (N := 16) ?hd (cs := #[.int .i64 0, .int .i64 0]) (t := 27) ?hr ?_; (case hd => rfl); (case hg => rfl); (case hr => first | (go_simp; done) | (go_simp; rfl))
                            intro gb265 hg w73 hbox hb
                            have BK265 := Aside0.mk (hbox)
                            have GW265 := Aside0.mk (zG : w.heap.size ≤ gb265)
                            have GE265 := Aside0.mk (zG : w.heap.size ≤ gb265)
                            have NB247_265 := Aside0.mk (zU BK247 hg)
                            have NB265_247 := Aside0.mk (zV BK247 hg)
                            have NB248_265 := Aside0.mk (zU BK248 hg)
                            have NB265_248 := Aside0.mk (zV BK248 hg)
                            have NB252_265 := Aside0.mk (zU BK252 hg)
                            have NB265_252 := Aside0.mk (zV BK252 hg)
                            have NB260_265 := Aside0.mk (zU BK260 hg)
                            have NB265_260 := Aside0.mk (zV BK260 hg)
                            replace HO_11 := Aside0.mk (Kd.R_below HO_11.out hb)
                            replace HO_253002 := Aside0.mk (Kd.R_below HO_253002.out hb)
                            replace BK247 := Aside0.mk (zW BK247 hb)
                            replace BK248 := Aside0.mk (zW BK248 hb)
                            replace BK252 := Aside0.mk (zW BK252 hb)
                            replace BK260 := Aside0.mk (zW BK260 hb)
                            replace HB := Aside0.mk (below_step zB hb)
                            clear hb hbox hg
                            refine hK.out _ _ ⟨(blk_cell BK260.out 0).trans rfl, (blk_cell BK260.out 1).trans rfl⟩ (fun hHeld => ?_)
                            clear hK K
                            refine norm_ (a' := ?_) ?_ ?_
                            rotate_left
                            ·show Act.put _ (some 16) _ = _
                             simp only [Act.put, List.setIfInBounds_toArray, List.set_cons_zero, List.set_cons_succ, i64_w, i32_w]
                             rfl
                            exact norm_ (by simp only [putAll, Act.put, List.setIfInBounds_toArray, List.set_cons_zero, List.set_cons_succ]) (hCont (gb265) _ ⟨hHeld, zR, zR, zK, zK, zK, zK, zK, GW265.out, GE265.out, NB247_265.out, NB265_247.out, NB248_265.out, NB265_248.out, NB252_265.out, NB265_252.out, NB260_265.out, NB265_260.out, zB⟩)
                           ·skip
                            refine box_step ?hg (N := 16) ?hd (cs := #[.int .i64 0, .int .i64 0]) (t := 27) ?hr ?_; (case hd => rfl); (case hg => rfl); (case hr => first | (go_simp; done) | (go_simp; rfl))
                            intro gb265 hg w72 hbox hb
                            have BK265 := Aside0.mk (hbox)
                            have GW265 := Aside0.mk (zG : w.heap.size ≤ gb265)
                            have GE265 := Aside0.mk (zG : w.heap.size ≤ gb265)
                            have NB247_265 := Aside0.mk (zU BK247 hg)
                            have NB265_247 := Aside0.mk (zV BK247 hg)
                            have NB248_265 := Aside0.mk (zU BK248 hg)
                            have NB265_248 := Aside0.mk (zV BK248 hg)
                            have NB252_265 := Aside0.mk (zU BK252 hg)
                            have NB265_252 := Aside0.mk (zV BK252 hg)
                            have NB260_265 := Aside0.mk (zU BK260 hg)
                            have NB265_260 := Aside0.mk (zV BK260 hg)
                            replace HO_11 := Aside0.mk (Kd.R_below HO_11.out hb)
                            replace HO_253002 := Aside0.mk (Kd.R_below HO_253002.out hb)
                            replace BK247 := Aside0.mk (zW BK247 hb)
                            replace BK248 := Aside0.mk (zW BK248 hb)
                            replace BK252 := Aside0.mk (zW BK252 hb)
                            replace BK260 := Aside0.mk (zW BK260 hb)
                            replace HB := Aside0.mk (below_step zB hb)
                            clear hb hbox hg
                            refine hK.out _ _ ⟨(blk_cell BK260.out 0).trans rfl, (blk_cell BK260.out 1).trans rfl⟩ (fun hHeld => ?_)
                            clear hK K
                            refine norm_ (a' := ?_) ?_ ?_
                            rotate_left
                            ·show Act.put _ (some 16) _ = _
                             simp only [Act.put, List.setIfInBounds_toArray, List.set_cons_zero, List.set_cons_succ, i64_w, i32_w]
                             rfl
                            refine one_ (i := 10) (N := some 89) #[true, true, true, true, true, true, true, true, true, true, true, false, false, false, true, false, false] rfl rfl (one_of HT_.out (by kernel_rfl)) (by decide) (fun K hK => ?_)
                            refine goes_ Try.func129 (by kernel_rfl) rfl #[.int .i64 (wrap64 (((rd_T89 l0_2 x9_1).f1.f0) * (wrap64 (Int.tdiv t258 t261)))), .int .i64 (wrap64 (Int.tdiv ((rd_T89 l0_2 x9_1).f1.f1) t261))] (by rfl) rfl rfl zM ?_
                            with_reducible refine (spec_l01Frac.calls kj29 (wrap64 (((rd_T89 l0_2 x9_1).f1.f0) * (wrap64 (Int.tdiv t258 t261)))) (wrap64 (Int.tdiv ((rd_T89 l0_2 x9_1).f1.f1) t261)) t262 t263 true _ A49.out).mono ?_
                            rintro e w73 ⟨rfl, hb⟩
                            refine ⟨_, rfl, ?_⟩
                            replace HO_11 := Aside0.mk (Kd.R_below HO_11.out hb)
                            replace HO_253002 := Aside0.mk (Kd.R_below HO_253002.out hb)
                            replace BK247 := Aside0.mk (zW BK247 hb)
                            replace BK248 := Aside0.mk (zW BK248 hb)
                            replace BK252 := Aside0.mk (zW BK252 hb)
                            replace BK260 := Aside0.mk (zW BK260 hb)
                            replace BK265 := Aside0.mk (zW BK265 hb)
                            replace HB := Aside0.mk (below_step zB hb)
                            (try clear hb)
                            (try clear hb2)
                            (try clear hk)
                            (try clear hi)
                            refine hK.out _ _ ⟨(blk_cell BK260.out 0).trans rfl, (blk_cell BK260.out 1).trans rfl⟩ (fun hHeld => ?_)
                            clear hK K
                            refine norm_ (a' := ?_) ?_ ?_
                            rotate_left
                            ·show Act.put _ (some 89) _ = _
                             simp only [Act.put, List.setIfInBounds_toArray, List.set_cons_zero, List.set_cons_succ, i64_w, i32_w]
                             rfl
                            refine zP 11 (N := some 78) (h := ?_)
                            refine zP 12 (N := some 90) (h := ?_)
                            refine zP 13 (N := some 91) (h := ?_)
                            exact norm_ (by simp only [putAll, Act.put, List.setIfInBounds_toArray, List.set_cons_zero, List.set_cons_succ]) (hCont (gb265) _ ⟨hHeld, zR, zR, zK, zK, zK, zK, zK, GW265.out, GE265.out, NB247_265.out, NB265_247.out, NB248_265.out, NB265_248.out, NB252_265.out, NB265_252.out, NB260_265.out, NB265_260.out, zB⟩)
                          rintro gb265 w74 ⟨hS_, h0_, h1_, h2_, h3_, h4_, h5_, h6_, h7_, h8_, h9_, h10_, h11_, h12_, h13_, h14_, h15_, h16_, h17_⟩
                          have BK265 : Aside0 (w74.heap[gb265]? = some (.cells #[.int .i64 0, .int .i64 0] 27 (0, 0))) := ⟨h6_⟩
                          have GW265 : Aside0 (w.heap.size ≤ gb265) := ⟨h7_⟩
                          have GE265 : Aside0 (w.heap.size ≤ gb265) := ⟨h8_⟩
                          have NB247_265 : Aside0 (gb247 ≠ gb265) := ⟨h9_⟩
                          have NB265_247 : Aside0 (gb265 ≠ gb247) := ⟨h10_⟩
                          have NB248_265 : Aside0 (gb248 ≠ gb265) := ⟨h11_⟩
                          have NB265_248 : Aside0 (gb265 ≠ gb248) := ⟨h12_⟩
                          have NB252_265 : Aside0 (gb252 ≠ gb265) := ⟨h13_⟩
                          have NB265_252 : Aside0 (gb265 ≠ gb252) := ⟨h14_⟩
                          have NB260_265 : Aside0 (gb260 ≠ gb265) := ⟨h15_⟩
                          have NB265_260 : Aside0 (gb265 ≠ gb260) := ⟨h16_⟩
                          replace HO_11 : Aside0 (Kd.R Kd.string 9 w74 w.heap.size (fun _ => True) (.slice (some ad257) t254.length co31) t254) := ⟨h0_⟩
                          replace HO_253002 : Aside0 (Kd.R k89 89 w74 w.heap.size (fun _ => True) u253002 x253002_2) := ⟨h1_⟩
                          replace BK247 : Aside0 (w74.heap[gb247]? = some (.cells #[.int .i64 a0_0, .int .i64 a0_1, .slice (some ad253) l0_2.length c0_2] 32 (0, 0))) := ⟨h2_⟩
                          replace BK248 : Aside0 (w74.heap[gb248]? = some (.cells #[.int .i64 x249000_2, .int .i64 x249001_2, .slice none 0 0] 32 (0, 0))) := ⟨h3_⟩
                          replace BK252 : Aside0 (w74.heap[gb252]? = some (.cells #[.int .i64 a1, .int .i64 a0_1, u253002] 32 (0, 0))) := ⟨h4_⟩
                          replace BK260 : Aside0 (w74.heap[gb260]? = some (.cells #[.int .i64 ((rd_T89 l0_2 x9_1).f1.f0), .int .i64 ((rd_T89 l0_2 x9_1).f1.f1)] 27 (0, 0))) := ⟨h5_⟩
                          replace HB : Aside0 (Below w.heap.size w w74) := ⟨h17_⟩
                          clear h0_ h1_ h2_ h3_ h4_ h5_ h6_ h7_ h8_ h9_ h10_ h11_ h12_ h13_ h14_ h15_ h16_ h17_
                          have hHeld : w74.cell? ⟨gb260, 0, none⟩ = some (.int .i64 ((rd_T89 l0_2 x9_1).f1.f0)) ∧ w74.cell? ⟨gb260, 1, none⟩ = some (.int .i64 ((rd_T89 l0_2 x9_1).f1.f1)) := hS_
                          refine norm_ (a' := ?_) ?_ ?_
                          rotate_left
                          ·simp only [putAll, Act.put, List.setIfInBounds_toArray, List.set_cons_zero, List.set_cons_succ]
                           rfl
                          refine one_ (i := 15) (N := none) #[true, true, true, true, true, true, true, true, true, true, true, true, true, true, true, true, false] rfl rfl (one_of HT_.out (by kernel_rfl)) (by decide) (fun K hK => ?_)
                          have hs75 : w74.cell? ⟨gb265, 0, none⟩ = some (.int .i64 0) := (blk_cell BK265.out 0).trans rfl
                          have hfs75 := blk_frozen BK265.out 0
                          have hns75_0 := NB247_265.out
                          have hns75_1 := NB248_265.out
                          have hns75_2 := NB252_265.out
                          have hns75_3 := NB260_265.out
                          have hms75_0 := NB265_247.out
                          have hms75_1 := NB265_248.out
                          have hms75_2 := NB265_252.out
                          have hms75_3 := NB265_260.out
                          have hs76 : w74.cell? ⟨gb265, 1, none⟩ = some (.int .i64 0) := (blk_cell BK265.out 1).trans rfl
                          have hfs76 := blk_frozen BK265.out 1
                          have hns76_0 := NB247_265.out
                          have hns76_1 := NB248_265.out
                          have hns76_2 := NB252_265.out
                          have hns76_3 := NB260_265.out
                          have hms76_0 := NB265_247.out
                          have hms76_1 := NB265_248.out
                          have hms76_2 := NB265_252.out
                          have hms76_3 := NB265_260.out
                          refine skip_ (w1 := ?_) (by rfl) rfl ?_ ?_
                          rotate_left
                          ·go_simp
                           rfl
                          refine hK.out _ _ ⟨((cell_far (p := ⟨gb265, _, none⟩) NB260_265.out _).trans (((cell_far (p := ⟨gb265, _, none⟩) NB260_265.out _).trans (hHeld.1)))), ((cell_far (p := ⟨gb265, _, none⟩) NB260_265.out _).trans (((cell_far (p := ⟨gb265, _, none⟩) NB260_265.out _).trans (hHeld.2))))⟩ (fun hHeld => ?_)
                          clear hK K
                          refine zP 16 (N := some 17) (h := ?_)
                          refine done_ (done_of HT_.out (by kernel_rfl)) ?_
                          try go_wp2
                          have n0_ : Aside0 (Kd.R Kd.string 9 ((w74.setCell ⟨gb265, 0, none⟩ (.int .i64 t262)).setCell ⟨gb265, 1, none⟩ (.int .i64 t263)) w.heap.size (fun _ => True) (.slice (some ad257) t254.length co31) t254) := ⟨by (with_reducible repeat (first | apply Kd.R_alloc | apply Kd.R_drewN | apply Kd.R_drew)); exact Kd.R_mono (Kd.R_far (p := ⟨gb265, 1, none⟩) (Kd.R_far (p := ⟨gb265, 0, none⟩) (Kd.R_types HO_11.out BK265.out (by decide)) (fun _ hk => hk.2) (.int .i64 t262)) (fun _ hk => hk.2) (.int .i64 t263)) (fun _ hk => trivial)⟩
                          have n1_ : Aside0 (Kd.R k89 89 ((w74.setCell ⟨gb265, 0, none⟩ (.int .i64 t262)).setCell ⟨gb265, 1, none⟩ (.int .i64 t263)) w.heap.size (fun _ => True) u253002 x253002_2) := ⟨by (with_reducible repeat (first | apply Kd.R_alloc | apply Kd.R_drewN | apply Kd.R_drew)); exact Kd.R_mono (Kd.R_far (p := ⟨gb265, 1, none⟩) (Kd.R_far (p := ⟨gb265, 0, none⟩) (Kd.R_types HO_253002.out BK265.out (by decide)) (fun _ hk => hk.2) (.int .i64 t262)) (fun _ hk => hk.2) (.int .i64 t263)) (fun _ hk => trivial)⟩
                          have n2_ : Aside0 (((w74.setCell ⟨gb265, 0, none⟩ (.int .i64 t262)).setCell ⟨gb265, 1, none⟩ (.int .i64 t263)).heap[gb247]? = some (.cells #[.int .i64 a0_0, .int .i64 a0_1, .slice (some ad253) l0_2.length c0_2] 32 (0, 0))) := ⟨by (with_reducible repeat (first | refine blk_drewN ?_ _ | refine blk_drew ?_ | refine blk_alloc ?_ _)); refine blk_far ?_ NB247_265.out _; (with_reducible repeat (first | refine blk_drewN ?_ _ | refine blk_drew ?_ | refine blk_alloc ?_ _)); refine blk_far ?_ NB247_265.out _; (with_reducible repeat (first | refine blk_drewN ?_ _ | refine blk_drew ?_ | refine blk_alloc ?_ _)); exact BK247.out⟩
                          have n3_ : Aside0 (((w74.setCell ⟨gb265, 0, none⟩ (.int .i64 t262)).setCell ⟨gb265, 1, none⟩ (.int .i64 t263)).heap[gb248]? = some (.cells #[.int .i64 x249000_2, .int .i64 x249001_2, .slice none 0 0] 32 (0, 0))) := ⟨by (with_reducible repeat (first | refine blk_drewN ?_ _ | refine blk_drew ?_ | refine blk_alloc ?_ _)); refine blk_far ?_ NB248_265.out _; (with_reducible repeat (first | refine blk_drewN ?_ _ | refine blk_drew ?_ | refine blk_alloc ?_ _)); refine blk_far ?_ NB248_265.out _; (with_reducible repeat (first | refine blk_drewN ?_ _ | refine blk_drew ?_ | refine blk_alloc ?_ _)); exact BK248.out⟩
                          have n4_ : Aside0 (((w74.setCell ⟨gb265, 0, none⟩ (.int .i64 t262)).setCell ⟨gb265, 1, none⟩ (.int .i64 t263)).heap[gb252]? = some (.cells #[.int .i64 a1, .int .i64 a0_1, u253002] 32 (0, 0))) := ⟨by (with_reducible repeat (first | refine blk_drewN ?_ _ | refine blk_drew ?_ | refine blk_alloc ?_ _)); refine blk_far ?_ NB252_265.out _; (with_reducible repeat (first | refine blk_drewN ?_ _ | refine blk_drew ?_ | refine blk_alloc ?_ _)); refine blk_far ?_ NB252_265.out _; (with_reducible repeat (first | refine blk_drewN ?_ _ | refine blk_drew ?_ | refine blk_alloc ?_ _)); exact BK252.out⟩
                          have n5_ : Aside0 (((w74.setCell ⟨gb265, 0, none⟩ (.int .i64 t262)).setCell ⟨gb265, 1, none⟩ (.int .i64 t263)).heap[gb260]? = some (.cells #[.int .i64 ((rd_T89 l0_2 x9_1).f1.f0), .int .i64 ((rd_T89 l0_2 x9_1).f1.f1)] 27 (0, 0))) := ⟨by (with_reducible repeat (first | refine blk_drewN ?_ _ | refine blk_drew ?_ | refine blk_alloc ?_ _)); refine blk_far ?_ NB260_265.out _; (with_reducible repeat (first | refine blk_drewN ?_ _ | refine blk_drew ?_ | refine blk_alloc ?_ _)); refine blk_far ?_ NB260_265.out _; (with_reducible repeat (first | refine blk_drewN ?_ _ | refine blk_drew ?_ | refine blk_alloc ?_ _)); exact BK260.out⟩
                          have n6_ : Aside0 (((w74.setCell ⟨gb265, 0, none⟩ (.int .i64 t262)).setCell ⟨gb265, 1, none⟩ (.int .i64 t263)).heap[gb265]? = some (.cells #[.int .i64 t262, .int .i64 t263] 27 (0, 0))) := ⟨by (with_reducible repeat (first | refine blk_drewN ?_ _ | refine blk_drew ?_ | refine blk_alloc ?_ _)); refine blk_put (cs := #[.int .i64 t262, .int .i64 0]) ?_ 1 _ rfl; (with_reducible repeat (first | refine blk_drewN ?_ _ | refine blk_drew ?_ | refine blk_alloc ?_ _)); refine blk_put (cs := #[.int .i64 0, .int .i64 0]) ?_ 0 _ rfl; (with_reducible repeat (first | refine blk_drewN ?_ _ | refine blk_drew ?_ | refine blk_alloc ?_ _)); exact BK265.out⟩
                          have n7_ : Aside0 (Below w.heap.size w ((w74.setCell ⟨gb265, 0, none⟩ (.int .i64 t262)).setCell ⟨gb265, 1, none⟩ (.int .i64 t263))) := ⟨zB⟩
                          (try clear HO_11)
                          (try clear HO_253002)
                          (try clear BK247)
                          (try clear BK248)
                          (try clear BK252)
                          (try clear BK260)
                          (try clear BK265)
                          (try clear HB)
                          generalize ((w74.setCell ⟨gb265, 0, none⟩ (.int .i64 t262)).setCell ⟨gb265, 1, none⟩ (.int .i64 t263)) = w77 at n0_ n1_ n2_ n3_ n4_ n5_ n6_ n7_ ⊢
                          have HO_11 := n0_
                          have HO_253002 := n1_
                          have BK247 := n2_
                          have BK248 := n3_
                          have BK252 := n4_
                          have BK260 := n5_
                          have BK265 := n6_
                          have HB := n7_
                          clear n0_ n1_ n2_ n3_ n4_ n5_ n6_ n7_
                          replace HO_11 := Aside0.mk (Kd.R_drew HO_11.out)
                          replace HO_253002 := Aside0.mk (Kd.R_drew HO_253002.out)
                          replace BK247 := Aside0.mk (blk_drew BK247.out)
                          replace BK248 := Aside0.mk (blk_drew BK248.out)
                          replace BK252 := Aside0.mk (blk_drew BK252.out)
                          replace BK260 := Aside0.mk (blk_drew BK260.out)
                          replace BK265 := Aside0.mk (blk_drew BK265.out)
                          replace HB := Aside0.mk (below_drew1 HB.out)
                          have p266 : 0 ≤ (x12_2 : Int) := zD
                          have q266 : x12_2 < (t254.length : Int) := zD
                          obtain ⟨ad266, e266, hx266_0⟩ := Kd.at_string (Kd.R_reads' HO_11.out).2.2 x12_2 p266 q266
                          obtain rfl : ad257 = ad266 := (by injection e266)
                          replace p266 := eq_true p266
                          replace q266 := eq_true q266
                          obtain ⟨Ao79, co79, eo79⟩ := Kd.R_slice HO_253002.out
                          (first | subst eo79 | (injection eo79 with f1_ f2_ f3_; have f4_ := f1_.symm; have f5_ := f3_.symm; clear f1_ f2_ f3_; subst f4_; subst f5_))
                          refine start_ (n := 13) (S := fun w' => w'.cell? ⟨gb252, 0, none⟩ = some (.int .i64 a1) ∧ w'.cell? ⟨gb252, 1, none⟩ = some (.int .i64 a0_1) ∧ w'.cell? ⟨gb252, 2, none⟩ = some (.slice Ao79 x253002_2.length co79) ∧ w'.cell? ⟨gb265, 0, none⟩ = some (.int .i64 t262) ∧ w'.cell? ⟨gb265, 1, none⟩ = some (.int .i64 t263) ∧ w'.cell? (ad257.add (x12_2).toNat) = some (.string (rdOf ByteArray.empty t254 x12_2))) (ds := []) #[false, false, false, false, false, false, false, false, false, false, false, false, false] (by kernel_rfl) rfl rfl ⟨(blk_cell BK252.out 0).trans rfl, (blk_cell BK252.out 1).trans rfl, (blk_cell BK252.out 2).trans rfl, (blk_cell BK265.out 0).trans rfl, (blk_cell BK265.out 1).trans rfl, hx266_0⟩ (fun hHeld => ?_); refine with_tabW spec_l07Map.tab19 spec_l07Map.bits19 (fun HT_ HW_ => ?_)
                          generalize w77.drew = w78 at HO_11 HO_253002 BK247 BK248 BK252 BK260 BK265 HB hx266_0 hHeld ⊢
                          refine zP 0 (N := some 96) (h := ?_)
                          refine zP 2 (N := some 98) (h := ?_)
                          refine zP 3 (N := some 99) (h := ?_)
                          refine zP 4 (N := some 100) (h := ?_)
                          refine zT 1 hHeld (N := some 97) (h := ?_)
                          refine zT 5 hHeld (N := some 101) (h := ?_)
                          refine zT 6 hHeld (N := some 102) (h := ?_)
                          refine one_ (i := 7) (N := some 103) #[true, true, true, true, true, true, true, true, false, false, false, false, false] rfl rfl (one_of HT_.out (by kernel_rfl)) (by decide) (fun K hK => ?_)
                          refine goes_ Try.func93 (by kernel_rfl) rfl #[.slice Ao79 x253002_2.length co79, .string (rdOf ByteArray.empty t254 x12_2), .agg #[.int .i64 t262, .int .i64 t263]] (by rfl) rfl rfl zM ?_
                          with_reducible refine (spec_l01Put.calls kj29 _ _ x253002_2 (rdOf ByteArray.empty t254 x12_2) t262 t263 t267 false _ ?side1 ?side2 A53.out).mono ?_
                          (case side1 => repeat (first | exact (Kd.R_reads' HO_253002.out).2.2 | (with_reducible refine Kd.C_alloc ?_ _) | (with_reducible refine Kd.C_drewN ?_ _) | (with_reducible refine Kd.C_drew ?_)))
                          (case side2 => exact (Kd.R_reads' HO_253002.out).2.1)
                          rintro e w80 ⟨v268, rfl, ho0, hb⟩
                          have HS5_ := (hb.cell (World.block_lt_of_cell? _ _ (hHeld.2.2.2.2.2))).trans (hHeld.2.2.2.2.2)
                          refine ⟨_, rfl, ?_⟩
                          have HO269 := Aside0.mk (Kd.R_lower (Kd.R_new' ho0 (Kd.R_lt HO_253002.out)) (below_size zB))
                          replace HO_11 := Aside0.mk (Kd.R_below HO_11.out hb)
                          replace HO_253002 := Aside0.mk (Kd.R_elder' zR (Kd.R_base ho0) hb)
                          replace BK247 := Aside0.mk (zW BK247 hb)
                          replace BK248 := Aside0.mk (zW BK248 hb)
                          replace BK252 := Aside0.mk (zW BK252 hb)
                          replace BK260 := Aside0.mk (zW BK260 hb)
                          replace BK265 := Aside0.mk (zW BK265 hb)
                          replace HB := Aside0.mk (below_step zB hb)
                          (try clear hb)
                          (try clear hb2)
                          (try clear hk)
                          (try clear hi)
                          (try clear ho0)
                          refine hK.out _ _ ⟨(blk_cell BK252.out 0).trans rfl, (blk_cell BK252.out 1).trans rfl, (blk_cell BK252.out 2).trans rfl, (blk_cell BK265.out 0).trans rfl, (blk_cell BK265.out 1).trans rfl, HS5_⟩ (fun hHeld => ?_)
                          clear hK K
                          refine norm_ (a' := ?_) ?_ ?_
                          rotate_left
                          ·show Act.put _ (some 103) _ = _
                           simp only [Act.put, List.setIfInBounds_toArray, List.set_cons_zero, List.set_cons_succ, i64_w, i32_w]
                           rfl
                          refine zP 8 (N := some 95) (h := ?_)
                          refine zP 9 (N := some 104) (h := ?_)
                          refine zP 10 (N := some 105) (h := ?_)
                          refine zP 11 (N := some 18) (h := ?_)
                          refine zP 12 (N := some 19) (h := ?_)
                          refine done_ (done_of HT_.out (by kernel_rfl)) ?_
                          have hnb81 := NB248_247.out
                          have hnc81 := NB247_248.out
                          have hnb82 := NB248_252.out
                          have hnc82 := NB252_248.out
                          have hnb83 := NB248_260.out
                          have hnc83 := NB260_248.out
                          have hnb84 := NB248_265.out
                          have hnc84 := NB265_248.out
                          obtain ⟨hcz85_0, hcz85_1, hcz85_2, hfz85_0, hfz85_1, hfz85_2⟩ := zC3 BK248
                          try go_wp2
                          refine bodyPost_ret (results_ct rfl _ _ gb248 32 #[.int .i64 0, .int .i64 0, .slice none 0 0] (0, 0) _ rfl (by (with_reducible repeat (first | refine blk_drewN ?_ _ | refine blk_drew ?_ | refine blk_alloc ?_ _)); refine blk_put (cs := #[.int .i64 0, .int .i64 0, .slice none 0 0]) ?_ 2 _ rfl; (with_reducible repeat (first | refine blk_drewN ?_ _ | refine blk_drew ?_ | refine blk_alloc ?_ _)); refine blk_put (cs := #[.int .i64 0, .int .i64 x249001_2, .slice none 0 0]) ?_ 1 _ rfl; (with_reducible repeat (first | refine blk_drewN ?_ _ | refine blk_drew ?_ | refine blk_alloc ?_ _)); refine blk_put (cs := #[.int .i64 x249000_2, .int .i64 x249001_2, .slice none 0 0]) ?_ 0 _ rfl; exact zK) Try.underlying32 rfl (by kernel_rfl)) rfl ?_
                          exact ⟨_, by first | rfl | (simp [errW_none, errW_some] <;> rfl) | (simp [*, errW_none, errW_some] <;> rfl), by first | exact Kd.R_nil _ _ _ _ _ | exact Kd.N_nil _ _ _ _ _ | exact Kd.V_nil _ _ _ _ _ | exact Kd.Q_nil _ _ _ _ _ | exact Kd.S_nil _ _ _ _ _, zB⟩
                        ·rw [if_neg c52] at H
                         exact absurd H (by simp)
                       ·rw [if_neg c51] at H
                        exact absurd H (by simp)
                      ·replace c50 := Bool.eq_false_iff.mpr c50
                       subst c50
                       have H1 : (some (0, 0, ([] : List (S89)), false)) = some (r1, r2, r3, r4) := by rw [if_neg (show ¬ (false = true) by decide)] at H; exact H
                       clear H
                       have H := H1
                       clear H1
                       simp only [Option.some.injEq, Prod.mk.injEq] at H
                       obtain ⟨rfl, rfl, rfl, rfl⟩ := H
                       try go_wp2
                       replace HO_11 := Aside0.mk (Kd.R_drew HO_11.out)
                       replace HO_253002 := Aside0.mk (Kd.R_drew HO_253002.out)
                       replace BK247 := Aside0.mk (blk_drew BK247.out)
                       replace BK248 := Aside0.mk (blk_drew BK248.out)
                       replace BK252 := Aside0.mk (blk_drew BK252.out)
                       replace BK260 := Aside0.mk (blk_drew BK260.out)
                       replace HB := Aside0.mk (below_drew1 HB.out)
                       refine start_ (n := 17) (S := fun w' => w'.cell? ⟨gb260, 0, none⟩ = some (.int .i64 ((rd_T89 l0_2 x9_1).f1.f0)) ∧ w'.cell? ⟨gb260, 1, none⟩ = some (.int .i64 ((rd_T89 l0_2 x9_1).f1.f1))) (ds := []) #[false, false, false, false, false, false, false, false, false, false, false, false, false, false, false, false, false] (by kernel_rfl) rfl rfl ⟨(blk_cell BK260.out 0).trans rfl, (blk_cell BK260.out 1).trans rfl⟩ (fun hHeld => ?_); refine with_tabW spec_l07Map.tab16 spec_l07Map.bits16 (fun HT_ HW_ => ?_)
                       generalize wc.drew = w86 at HO_11 HO_253002 BK247 BK248 BK252 BK260 HB hHeld ⊢
                       refine zP 0 (N := some 79) (h := ?_)
                       refine zP 2 (N := some 81) (h := ?_)
                       refine zP 3 (N := some 82) (h := ?_)
                       refine zP 4 (N := some 83) (h := ?_)
                       refine zP 6 (N := some 85) (h := ?_)
                       refine zP 8 (N := some 87) (h := ?_)
                       refine zT 1 hHeld (N := some 80) (h := ?_)
                       refine zP 5 (N := some 84) (h := ?_)
                       refine zT 7 hHeld (N := some 86) (h := ?_)
                       refine zP 9 (N := some 88) (h := ?_)
                       refine join_ (σ := Nat) 2 #[true, true, true, true, true, true, true, true, true, true, true, true, true, true, true, false, false] (fun s_ => [(89, .tuple #[.agg #[.int .i64 t262, .int .i64 t263], .bool false]), (16, .pointer (some ⟨s_, 0, none⟩)), (78, .tuple #[.agg #[.int .i64 t262, .int .i64 t263], .bool false]), (90, .agg #[.int .i64 t262, .int .i64 t263]), (91, .bool false)]) (fun s_ w' => (w'.cell? ⟨gb260, 0, none⟩ = some (.int .i64 ((rd_T89 l0_2 x9_1).f1.f0)) ∧ w'.cell? ⟨gb260, 1, none⟩ = some (.int .i64 ((rd_T89 l0_2 x9_1).f1.f1))) ∧ (Kd.R Kd.string 9 w' w.heap.size (fun _ => True) (.slice (some ad257) t254.length co31) t254) ∧ (Kd.R k89 89 w' w.heap.size (fun _ => True) u253002 x253002_2) ∧ (w'.heap[gb247]? = some (.cells #[.int .i64 a0_0, .int .i64 a0_1, .slice (some ad253) l0_2.length c0_2] 32 (0, 0))) ∧ (w'.heap[gb248]? = some (.cells #[.int .i64 x249000_2, .int .i64 x249001_2, .slice none 0 0] 32 (0, 0))) ∧ (w'.heap[gb252]? = some (.cells #[.int .i64 a1, .int .i64 a0_1, u253002] 32 (0, 0))) ∧ (w'.heap[gb260]? = some (.cells #[.int .i64 ((rd_T89 l0_2 x9_1).f1.f0), .int .i64 ((rd_T89 l0_2 x9_1).f1.f1)] 27 (0, 0))) ∧ (w'.heap[s_]? = some (.cells #[.int .i64 0, .int .i64 0] 27 (0, 0))) ∧ (w.heap.size ≤ s_) ∧ (w.heap.size ≤ s_) ∧ (gb247 ≠ s_) ∧ (s_ ≠ gb247) ∧ (gb248 ≠ s_) ∧ (s_ ≠ gb248) ∧ (gb252 ≠ s_) ∧ (s_ ≠ gb252) ∧ (gb260 ≠ s_) ∧ (s_ ≠ gb260) ∧ (Below w.heap.size w w')) ?_ ?_
                       rotate_left
                       ·intro hCont
                        refine two_ (i := 10) (j := 14) (Ni := some 89) (Nj := some 16) #[true, true, true, true, true, true, true, true, true, true, true, false, false, false, false, false, false] #[true, true, true, true, true, true, true, true, true, true, false, false, false, false, true, false, false] rfl rfl rfl rfl (two_of HT_.out (by kernel_rfl)) (by decide) (by decide) (fun K hK => ?_) (fun K hK => ?_)
                        ·skip
                         refine goes_ Try.func129 (by kernel_rfl) rfl #[.int .i64 (wrap64 (((rd_T89 l0_2 x9_1).f1.f0) * (wrap64 (Int.tdiv t258 t261)))), .int .i64 (wrap64 (Int.tdiv ((rd_T89 l0_2 x9_1).f1.f1) t261))] (by rfl) rfl rfl zM ?_
                         with_reducible refine (spec_l01Frac.calls kj29 (wrap64 (((rd_T89 l0_2 x9_1).f1.f0) * (wrap64 (Int.tdiv t258 t261)))) (wrap64 (Int.tdiv ((rd_T89 l0_2 x9_1).f1.f1) t261)) t262 t263 false _ A49.out).mono ?_
                         rintro e w87 ⟨rfl, hb⟩
                         refine ⟨_, rfl, ?_⟩
                         replace HO_11 := Aside0.mk (Kd.R_below HO_11.out hb)
                         replace HO_253002 := Aside0.mk (Kd.R_below HO_253002.out hb)
                         replace BK247 := Aside0.mk (zW BK247 hb)
                         replace BK248 := Aside0.mk (zW BK248 hb)
                         replace BK252 := Aside0.mk (zW BK252 hb)
                         replace BK260 := Aside0.mk (zW BK260 hb)
                         replace HB := Aside0.mk (below_step zB hb)
                         (try clear hb)
                         (try clear hb2)
                         (try clear hk)
                         (try clear hi)
                         refine hK.out _ _ ⟨(blk_cell BK260.out 0).trans rfl, (blk_cell BK260.out 1).trans rfl⟩ (fun hHeld => ?_)
                         clear hK K
                         refine norm_ (a' := ?_) ?_ ?_
                         rotate_left
                         ·show Act.put _ (some 89) _ = _
                          simp only [Act.put, List.setIfInBounds_toArray, List.set_cons_zero, List.set_cons_succ, i64_w, i32_w]
                          rfl
                         refine zP 11 (N := some 78) (h := ?_)
                         refine zP 12 (N := some 90) (h := ?_)
                         refine zP 13 (N := some 91) (h := ?_)
                         refine one_ (i := 14) (N := some 16) #[true, true, true, true, true, true, true, true, true, true, true, true, true, true, true, false, false] rfl rfl (one_of HT_.out (by kernel_rfl)) (by decide) (fun K hK => ?_)
                         refine box_step ?hg (N := 16) ?hd (cs := #[.int .i64 0, .int .i64 0]) (t := 27) ?hr ?_; (case hd => rfl); (case hg => rfl); (case hr => first | (go_simp; done) | (go_simp; rfl))
                         intro gb265 hg w88 hbox hb
                         have BK265 := Aside0.mk (hbox)
                         have GW265 := Aside0.mk (zG : w.heap.size ≤ gb265)
                         have GE265 := Aside0.mk (zG : w.heap.size ≤ gb265)
                         have NB247_265 := Aside0.mk (zU BK247 hg)
                         have NB265_247 := Aside0.mk (zV BK247 hg)
                         have NB248_265 := Aside0.mk (zU BK248 hg)
                         have NB265_248 := Aside0.mk (zV BK248 hg)
                         have NB252_265 := Aside0.mk (zU BK252 hg)
                         have NB265_252 := Aside0.mk (zV BK252 hg)
                         have NB260_265 := Aside0.mk (zU BK260 hg)
                         have NB265_260 := Aside0.mk (zV BK260 hg)
                         replace HO_11 := Aside0.mk (Kd.R_below HO_11.out hb)
                         replace HO_253002 := Aside0.mk (Kd.R_below HO_253002.out hb)
                         replace BK247 := Aside0.mk (zW BK247 hb)
                         replace BK248 := Aside0.mk (zW BK248 hb)
                         replace BK252 := Aside0.mk (zW BK252 hb)
                         replace BK260 := Aside0.mk (zW BK260 hb)
                         replace HB := Aside0.mk (below_step zB hb)
                         clear hb hbox hg
                         refine hK.out _ _ ⟨(blk_cell BK260.out 0).trans rfl, (blk_cell BK260.out 1).trans rfl⟩ (fun hHeld => ?_)
                         clear hK K
                         refine norm_ (a' := ?_) ?_ ?_
                         rotate_left
                         ·show Act.put _ (some 16) _ = _
                          simp only [Act.put, List.setIfInBounds_toArray, List.set_cons_zero, List.set_cons_succ, i64_w, i32_w]
                          rfl
                         exact norm_ (by simp only [putAll, Act.put, List.setIfInBounds_toArray, List.set_cons_zero, List.set_cons_succ]) (hCont (gb265) _ ⟨hHeld, zR, zR, zK, zK, zK, zK, zK, GW265.out, GE265.out, NB247_265.out, NB265_247.out, NB248_265.out, NB265_248.out, NB252_265.out, NB265_252.out, NB260_265.out, NB265_260.out, zB⟩)
                        ·skip
                         refine box_step ?hg (N := 16) ?hd (cs := #[.int .i64 0, .int .i64 0]) (t := 27) ?hr ?_; (case hd => rfl); (case hg => rfl); (case hr => first | (go_simp; done) | (go_simp; rfl))
                         intro gb265 hg w87 hbox hb
                         have BK265 := Aside0.mk (hbox)
                         have GW265 := Aside0.mk (zG : w.heap.size ≤ gb265)
                         have GE265 := Aside0.mk (zG : w.heap.size ≤ gb265)
                         have NB247_265 := Aside0.mk (zU BK247 hg)
                         have NB265_247 := Aside0.mk (zV BK247 hg)
                         have NB248_265 := Aside0.mk (zU BK248 hg)
                         have NB265_248 := Aside0.mk (zV BK248 hg)
                         have NB252_265 := Aside0.mk (zU BK252 hg)
                         have NB265_252 := Aside0.mk (zV BK252 hg)
                         have NB260_265 := Aside0.mk (zU BK260 hg)
                         have NB265_260 := Aside0.mk (zV BK260 hg)
                         replace HO_11 := Aside0.mk (Kd.R_below HO_11.out hb)
                         replace HO_253002 := Aside0.mk (Kd.R_below HO_253002.out hb)
                         replace BK247 := Aside0.mk (zW BK247 hb)
                         replace BK248 := Aside0.mk (zW BK248 hb)
                         replace BK252 := Aside0.mk (zW BK252 hb)
                         replace BK260 := Aside0.mk (zW BK260 hb)
                         replace HB := Aside0.mk (below_step zB hb)
                         clear hb hbox hg
                         refine hK.out _ _ ⟨(blk_cell BK260.out 0).trans rfl, (blk_cell BK260.out 1).trans rfl⟩ (fun hHeld => ?_)
                         clear hK K
                         refine norm_ (a' := ?_) ?_ ?_
                         rotate_left
                         ·show Act.put _ (some 16) _ = _
                          simp only [Act.put, List.setIfInBounds_toArray, List.set_cons_zero, List.set_cons_succ, i64_w, i32_w]
                          rfl
                         refine one_ (i := 10) (N := some 89) #[true, true, true, true, true, true, true, true, true, true, true, false, false, false, true, false, false] rfl rfl (one_of HT_.out (by kernel_rfl)) (by decide) (fun K hK => ?_)
                         refine goes_ Try.func129 (by kernel_rfl) rfl #[.int .i64 (wrap64 (((rd_T89 l0_2 x9_1).f1.f0) * (wrap64 (Int.tdiv t258 t261)))), .int .i64 (wrap64 (Int.tdiv ((rd_T89 l0_2 x9_1).f1.f1) t261))] (by rfl) rfl rfl zM ?_
                         with_reducible refine (spec_l01Frac.calls kj29 (wrap64 (((rd_T89 l0_2 x9_1).f1.f0) * (wrap64 (Int.tdiv t258 t261)))) (wrap64 (Int.tdiv ((rd_T89 l0_2 x9_1).f1.f1) t261)) t262 t263 false _ A49.out).mono ?_
                         rintro e w88 ⟨rfl, hb⟩
                         refine ⟨_, rfl, ?_⟩
                         replace HO_11 := Aside0.mk (Kd.R_below HO_11.out hb)
                         replace HO_253002 := Aside0.mk (Kd.R_below HO_253002.out hb)
                         replace BK247 := Aside0.mk (zW BK247 hb)
                         replace BK248 := Aside0.mk (zW BK248 hb)
                         replace BK252 := Aside0.mk (zW BK252 hb)
                         replace BK260 := Aside0.mk (zW BK260 hb)
                         replace BK265 := Aside0.mk (zW BK265 hb)
                         replace HB := Aside0.mk (below_step zB hb)
                         (try clear hb)
                         (try clear hb2)
                         (try clear hk)
                         (try clear hi)
                         refine hK.out _ _ ⟨(blk_cell BK260.out 0).trans rfl, (blk_cell BK260.out 1).trans rfl⟩ (fun hHeld => ?_)
                         clear hK K
                         refine norm_ (a' := ?_) ?_ ?_
                         rotate_left
                         ·show Act.put _ (some 89) _ = _
                          simp only [Act.put, List.setIfInBounds_toArray, List.set_cons_zero, List.set_cons_succ, i64_w, i32_w]
                          rfl
                         refine zP 11 (N := some 78) (h := ?_)
                         refine zP 12 (N := some 90) (h := ?_)
                         refine zP 13 (N := some 91) (h := ?_)
                         exact norm_ (by simp only [putAll, Act.put, List.setIfInBounds_toArray, List.set_cons_zero, List.set_cons_succ]) (hCont (gb265) _ ⟨hHeld, zR, zR, zK, zK, zK, zK, zK, GW265.out, GE265.out, NB247_265.out, NB265_247.out, NB248_265.out, NB265_248.out, NB252_265.out, NB265_252.out, NB260_265.out, NB265_260.out, zB⟩)
                       rintro gb265 w89 ⟨hS_, h0_, h1_, h2_, h3_, h4_, h5_, h6_, h7_, h8_, h9_, h10_, h11_, h12_, h13_, h14_, h15_, h16_, h17_⟩
                       have BK265 : Aside0 (w89.heap[gb265]? = some (.cells #[.int .i64 0, .int .i64 0] 27 (0, 0))) := ⟨h6_⟩
                       have GW265 : Aside0 (w.heap.size ≤ gb265) := ⟨h7_⟩
                       have GE265 : Aside0 (w.heap.size ≤ gb265) := ⟨h8_⟩
                       have NB247_265 : Aside0 (gb247 ≠ gb265) := ⟨h9_⟩
                       have NB265_247 : Aside0 (gb265 ≠ gb247) := ⟨h10_⟩
                       have NB248_265 : Aside0 (gb248 ≠ gb265) := ⟨h11_⟩
                       have NB265_248 : Aside0 (gb265 ≠ gb248) := ⟨h12_⟩
                       have NB252_265 : Aside0 (gb252 ≠ gb265) := ⟨h13_⟩
                       have NB265_252 : Aside0 (gb265 ≠ gb252) := ⟨h14_⟩
                       have NB260_265 : Aside0 (gb260 ≠ gb265) := ⟨h15_⟩
                       have NB265_260 : Aside0 (gb265 ≠ gb260) := ⟨h16_⟩
                       replace HO_11 : Aside0 (Kd.R Kd.string 9 w89 w.heap.size (fun _ => True) (.slice (some ad257) t254.length co31) t254) := ⟨h0_⟩
                       replace HO_253002 : Aside0 (Kd.R k89 89 w89 w.heap.size (fun _ => True) u253002 x253002_2) := ⟨h1_⟩
                       replace BK247 : Aside0 (w89.heap[gb247]? = some (.cells #[.int .i64 a0_0, .int .i64 a0_1, .slice (some ad253) l0_2.length c0_2] 32 (0, 0))) := ⟨h2_⟩
                       replace BK248 : Aside0 (w89.heap[gb248]? = some (.cells #[.int .i64 x249000_2, .int .i64 x249001_2, .slice none 0 0] 32 (0, 0))) := ⟨h3_⟩
                       replace BK252 : Aside0 (w89.heap[gb252]? = some (.cells #[.int .i64 a1, .int .i64 a0_1, u253002] 32 (0, 0))) := ⟨h4_⟩
                       replace BK260 : Aside0 (w89.heap[gb260]? = some (.cells #[.int .i64 ((rd_T89 l0_2 x9_1).f1.f0), .int .i64 ((rd_T89 l0_2 x9_1).f1.f1)] 27 (0, 0))) := ⟨h5_⟩
                       replace HB : Aside0 (Below w.heap.size w w89) := ⟨h17_⟩
                       clear h0_ h1_ h2_ h3_ h4_ h5_ h6_ h7_ h8_ h9_ h10_ h11_ h12_ h13_ h14_ h15_ h16_ h17_
                       have hHeld : w89.cell? ⟨gb260, 0, none⟩ = some (.int .i64 ((rd_T89 l0_2 x9_1).f1.f0)) ∧ w89.cell? ⟨gb260, 1, none⟩ = some (.int .i64 ((rd_T89 l0_2 x9_1).f1.f1)) := hS_
                       refine norm_ (a' := ?_) ?_ ?_
                       rotate_left
                       ·simp only [putAll, Act.put, List.setIfInBounds_toArray, List.set_cons_zero, List.set_cons_succ]
                        rfl
                       refine one_ (i := 15) (N := none) #[true, true, true, true, true, true, true, true, true, true, true, true, true, true, true, true, false] rfl rfl (one_of HT_.out (by kernel_rfl)) (by decide) (fun K hK => ?_)
                       have hs90 : w89.cell? ⟨gb265, 0, none⟩ = some (.int .i64 0) := (blk_cell BK265.out 0).trans rfl
                       have hfs90 := blk_frozen BK265.out 0
                       have hns90_0 := NB247_265.out
                       have hns90_1 := NB248_265.out
                       have hns90_2 := NB252_265.out
                       have hns90_3 := NB260_265.out
                       have hms90_0 := NB265_247.out
                       have hms90_1 := NB265_248.out
                       have hms90_2 := NB265_252.out
                       have hms90_3 := NB265_260.out
                       have hs91 : w89.cell? ⟨gb265, 1, none⟩ = some (.int .i64 0) := (blk_cell BK265.out 1).trans rfl
                       have hfs91 := blk_frozen BK265.out 1
                       have hns91_0 := NB247_265.out
                       have hns91_1 := NB248_265.out
                       have hns91_2 := NB252_265.out
                       have hns91_3 := NB260_265.out
                       have hms91_0 := NB265_247.out
                       have hms91_1 := NB265_248.out
                       have hms91_2 := NB265_252.out
                       have hms91_3 := NB265_260.out
                       refine skip_ (w1 := ?_) (by rfl) rfl ?_ ?_
                       rotate_left
                       ·go_simp
                        rfl
                       refine hK.out _ _ ⟨((cell_far (p := ⟨gb265, _, none⟩) NB260_265.out _).trans (((cell_far (p := ⟨gb265, _, none⟩) NB260_265.out _).trans (hHeld.1)))), ((cell_far (p := ⟨gb265, _, none⟩) NB260_265.out _).trans (((cell_far (p := ⟨gb265, _, none⟩) NB260_265.out _).trans (hHeld.2))))⟩ (fun hHeld => ?_)
                       clear hK K
                       refine zP 16 (N := some 17) (h := ?_)
                       refine done_ (done_of HT_.out (by kernel_rfl)) ?_
                       have hnb92 := NB248_247.out
                       have hnc92 := NB247_248.out
                       have hnb93 := NB248_252.out
                       have hnc93 := NB252_248.out
                       have hnb94 := NB248_260.out
                       have hnc94 := NB260_248.out
                       have hnb95 := NB248_265.out
                       have hnc95 := NB265_248.out
                       obtain ⟨hcz96_0, hcz96_1, hcz96_2, hfz96_0, hfz96_1, hfz96_2⟩ := zC3 BK248
                       try go_wp2
                       refine bodyPost_ret (results_ct rfl _ _ gb248 32 #[.int .i64 0, .int .i64 0, .slice none 0 0] (0, 0) _ rfl (by (with_reducible repeat (first | refine blk_drewN ?_ _ | refine blk_drew ?_ | refine blk_alloc ?_ _)); refine blk_put (cs := #[.int .i64 0, .int .i64 0, .slice none 0 0]) ?_ 2 _ rfl; (with_reducible repeat (first | refine blk_drewN ?_ _ | refine blk_drew ?_ | refine blk_alloc ?_ _)); refine blk_put (cs := #[.int .i64 0, .int .i64 x249001_2, .slice none 0 0]) ?_ 1 _ rfl; (with_reducible repeat (first | refine blk_drewN ?_ _ | refine blk_drew ?_ | refine blk_alloc ?_ _)); refine blk_put (cs := #[.int .i64 x249000_2, .int .i64 x249001_2, .slice none 0 0]) ?_ 0 _ rfl; (with_reducible repeat (first | refine blk_drewN ?_ _ | refine blk_drew ?_ | refine blk_alloc ?_ _)); refine blk_far ?_ NB248_265.out _; (with_reducible repeat (first | refine blk_drewN ?_ _ | refine blk_drew ?_ | refine blk_alloc ?_ _)); refine blk_far ?_ NB248_265.out _; exact zK) Try.underlying32 rfl (by kernel_rfl)) rfl ?_
                       exact ⟨_, by first | rfl | (simp [errW_none, errW_some] <;> rfl) | (simp [*, errW_none, errW_some] <;> rfl), by first | exact Kd.R_nil _ _ _ _ _ | exact Kd.N_nil _ _ _ _ _ | exact Kd.V_nil _ _ _ _ _ | exact Kd.Q_nil _ _ _ _ _ | exact Kd.S_nil _ _ _ _ _, zB⟩
                 ·rw [if_neg c28] at H
                  exact absurd H (by simp)
                ·rw [if_neg c27] at H
                 exact absurd H (by simp)
              ·rw [if_neg c23] at H
               exact absurd H (by simp)
             ·rw [if_neg c22] at H
              have c22b0 : decide (x12_2 < (t254.length : Int)) = false := decide_eq_false c22
              clear c22
              have H' := Aside0.mk H
              clear H
              obtain ⟨Ao97, co97, eo97⟩ := Kd.R_slice HO_11.out
              subst eo97
              go_wp2
              go_roundg k2
              case measure => have := HK1.out; have := HK2.out; omega
              case rel => exact ⟨(wrap64 (x9_1 + 1)), (x249000_2), (x249001_2), (x253002_2), (u253002), (by first | rfl | (simp; done) | (simp [*]; done)), H', ⟨by have := HK1.out; have := HK2.out; omega⟩, ⟨zR⟩, ⟨zK⟩, ⟨zK⟩, ⟨zK⟩, ⟨zB⟩⟩
        · rw [if_neg c16] at H
          exact absurd H (by simp)
      · rw [if_neg c15] at H
        have c15b0 : decide (x9_1 < (l0_2.length : Int)) = false := decide_eq_false c15
        clear c15
        simp only [Option.some.injEq, Prod.mk.injEq] at H
        obtain ⟨rfl, rfl, rfl, rfl⟩ := H
        have hnb98 := NB247_248.out
        have hnc98 := NB248_247.out
        have hnb99 := NB247_252.out
        have hnc99 := NB252_247.out
        obtain ⟨hcz100_0, hcz100_1, hcz100_2, hfz100_0, hfz100_1, hfz100_2⟩ := zC3 BK247
        have hnb101 := NB252_248.out
        have hnc101 := NB248_252.out
        obtain ⟨hcz102_0, hcz102_1, hcz102_2, hfz102_0, hfz102_1, hfz102_2⟩ := zC3 BK252
        obtain ⟨hcz103_0, hcz103_1, hcz103_2, hfz103_0, hfz103_1, hfz103_2⟩ := zC3 BK248
        obtain ⟨Ao104, co104, eo104⟩ := Kd.R_slice HO_253002.out
        subst eo104
        go_wp2
        refine bodyPost_ret (results_ct rfl _ _ gb248 32 #[.int .i64 a1, .int .i64 a0_1, .slice Ao104 x253002_1.length co104] (0, 0) _ rfl (by (with_reducible repeat (first | refine blk_drewN ?_ _ | refine blk_drew ?_ | refine blk_alloc ?_ _)); refine blk_put (cs := #[.int .i64 a1, .int .i64 a0_1, .slice none 0 0]) ?_ 2 _ rfl; (with_reducible repeat (first | refine blk_drewN ?_ _ | refine blk_drew ?_ | refine blk_alloc ?_ _)); refine blk_put (cs := #[.int .i64 a1, .int .i64 x249001_1, .slice none 0 0]) ?_ 1 _ rfl; (with_reducible repeat (first | refine blk_drewN ?_ _ | refine blk_drew ?_ | refine blk_alloc ?_ _)); refine blk_put (cs := #[.int .i64 x249000_1, .int .i64 x249001_1, .slice none 0 0]) ?_ 0 _ rfl; exact zK) Try.underlying32 rfl (by kernel_rfl)) rfl ?_
        exact ⟨_, by first | rfl | (simp [errW_none, errW_some] <;> rfl) | (simp [*, errW_none, errW_some] <;> rfl), by (with_reducible repeat (first | apply Kd.R_alloc | apply Kd.R_drewN | apply Kd.R_drew)); exact Kd.R_mono (Kd.R_far (p := ⟨gb248, 2, none⟩) (Kd.R_far (p := ⟨gb248, 1, none⟩) (Kd.R_far (p := ⟨gb248, 0, none⟩) (Kd.R_types HO_253002.out BK248.out (by decide)) (fun _ hk => hk.2) (.int .i64 a1)) (fun _ hk => hk.2) (.int .i64 a0_1)) (fun _ hk => hk.2) (.slice Ao104 x253002_1.length co104)) (fun _ hk => trivial), zB⟩

end Go.Proofs.Ytcklefgkbddlhaa.P
