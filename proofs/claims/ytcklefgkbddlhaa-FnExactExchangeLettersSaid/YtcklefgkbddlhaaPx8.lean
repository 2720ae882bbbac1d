/- What a call of each Go function named below comes to is what the plain Lean function beside it says. Made by a program of this session out of the print of the translation; Lean checks it. -/
import Derived.Test.YtcklefgkbddlhaaPx0
import Derived.Test.YtcklefgkbddlhaaPx5
import Derived.Test.YtcklefgkbddlhaaPx7
namespace Go.Proofs.Ytcklefgkbddlhaa.P
open Go.RowKit Go.Proofs.YtcklefgkbddlhaaW.PrintWords Go.Proofs.YtcklefgkbddlhaaW.PrintLast Go.Proofs.YtcklefgkbddlhaaW.PrintMore
attribute [local go_sem] max2_int min2_int max_two min_two max_three min_three max_four min_four   -- for this text's walks alone
set_option linter.unusedVariables false
set_option linter.unusedSimpArgs false


/-! ### spec_l01Put: function 93 -/
mutual
def spec_l01Put.j1 : Nat → List (S89) → ByteArray → Int → Int → Int → Option ((List (S89)) × Bool)
  | 0, _, _, _, _, _ => none
  | k + 1, x0, x1, x8, x195000, x195001 => (some (([] : List (S89)) : List (S89))).bind fun y197 => (if 0 ≤ x8 then (if x8 ≤ (x0.length : Int) then ((some (x0.take (x8 : Int).toNat : List (S89))).bind fun y200 => (if y197.length + y200.length < 4398046511104 then ((some (y197 ++ y200 : List (S89))).bind fun y204 => (if x8 < (x0.length : Int) then (spec_l01Put.j2 k x0 x1 x8 y204 (((rd_T89 x0 x8).f0).toList == x1.toList) x195000 x195001) else (spec_l01Put.j2 k x0 x1 x8 y204 false x195000 x195001))) else (none))) else (none)) else (none))
def spec_l01Put.j2 : Nat → List (S89) → ByteArray → Int → List (S89) → Bool → Int → Int → Option ((List (S89)) × Bool)
  | 0, _, _, _, _, _, _, _ => none
  | k + 1, x0, x1, x8, x9, x44, x195000, x195001 => if x44 = true then (if 0 ≤ x8 then (if x8 < (x0.length : Int) then ((spec_l01Plus.f k ((rd_T89 x0 x8).f1.f0) ((rd_T89 x0 x8).f1.f1) x195000 x195001).bind fun bt209 => (if bt209.2.2 = true then ((spec_l01Zero.f bt209.1 bt209.2.1).bind fun t213 => (if t213 = true then (if 0 ≤ (wrap64 (x8 + 1)) then (if (wrap64 (x8 + 1)) ≤ (x0.length : Int) then ((some (x0.drop ((wrap64 (x8 + 1)) : Int).toNat : List (S89))).bind fun y214 => (if x9.length + y214.length < 4398046511104 then (some ((x9 ++ y214), true)) else (none))) else (none)) else (none)) else (if x9.length < 4398046511104 then ((some (x9 ++ [(⟨x1, (⟨bt209.1, bt209.2.1⟩ : S27)⟩ : S89)] : List (S89))).bind fun y221 => (if 0 ≤ (wrap64 (x8 + 1)) then (if (wrap64 (x8 + 1)) ≤ (x0.length : Int) then ((some (x0.drop ((wrap64 (x8 + 1)) : Int).toNat : List (S89))).bind fun y224 => (if y221.length + y224.length < 4398046511104 then (some ((y221 ++ y224), true)) else (none))) else (none)) else (none))) else (none)))) else (some (([] : List (S89)), false)))) else (none)) else (none)) else ((spec_l01Zero.f x195000 x195001).bind fun t231 => (if t231 = true then (if 0 ≤ x8 then (if x8 ≤ (x0.length : Int) then ((some (x0.drop (x8 : Int).toNat : List (S89))).bind fun y232 => (if x9.length + y232.length < 4398046511104 then (some ((x9 ++ y232), true)) else (none))) else (none)) else (none)) else (if x9.length < 4398046511104 then ((some (x9 ++ [(⟨x1, (⟨x195000, x195001⟩ : S27)⟩ : S89)] : List (S89))).bind fun y239 => (if 0 ≤ x8 then (if x8 ≤ (x0.length : Int) then ((some (x0.drop (x8 : Int).toNat : List (S89))).bind fun y242 => (if y239.length + y242.length < 4398046511104 then (some ((y239 ++ y242), true)) else (none))) else (none)) else (none))) else (none))))
def spec_l01Put.l0 : Nat → List (S89) → ByteArray → Int → Int → Int → Option ((List (S89)) × Bool)
  | 0, _, _, _, _, _ => none
  | k + 1, x0, x1, x8, x195000, x195001 => if x8 < (x0.length : Int) then (if 0 ≤ x8 then ((spec_l01Before.f ((rd_T89 x0 x8).f0) x1).bind fun t196 => (if t196 = true then (spec_l01Put.l0 k x0 x1 (wrap64 (x8 + 1)) x195000 x195001) else (spec_l01Put.j1 k x0 x1 x8 x195000 x195001))) else (none)) else (spec_l01Put.j1 k x0 x1 x8 x195000 x195001)
end
def spec_l01Put.f (k : Nat) (l0 : List (S89)) (a1 : ByteArray) (a2_0 : Int) (a2_1 : Int) : Option ((List (S89)) × Bool) := spec_l01Put.l0 k l0 a1 0 a2_0 a2_1
theorem spec_l01Put.mono_l : ∀ k, (∀ y0 y1 y2 y3 y4, LeO (spec_l01Put.j1 k y0 y1 y2 y3 y4) (spec_l01Put.j1 (k + 1) y0 y1 y2 y3 y4)) ∧ (∀ y0 y1 y2 y3 y4 y5 y6, LeO (spec_l01Put.j2 k y0 y1 y2 y3 y4 y5 y6) (spec_l01Put.j2 (k + 1) y0 y1 y2 y3 y4 y5 y6)) ∧ (∀ y0 y1 y2 y3 y4, LeO (spec_l01Put.l0 k y0 y1 y2 y3 y4) (spec_l01Put.l0 (k + 1) y0 y1 y2 y3 y4))
  | 0 => ⟨fun _ _ _ _ _ r h => by simp [spec_l01Put.j1] at h, fun _ _ _ _ _ _ _ r h => by simp [spec_l01Put.j2] at h, fun _ _ _ _ _ r h => by simp [spec_l01Put.l0] at h⟩
  | k + 1 => by
    obtain ⟨ih0, ih1, ih2⟩ := spec_l01Put.mono_l k
    refine ⟨?_, ?_, ?_⟩
    · intro y0 y1 y2 y3 y4
      unfold spec_l01Put.j1
      repeat' first
      | (with_reducible exact ih0 _ _ _ _ _)
      | (with_reducible exact ih1 _ _ _ _ _ _ _)
      | (with_reducible exact ih2 _ _ _ _ _)
      | (with_reducible exact spec_l01Plus.mono _ _ _ _ _)
      | (with_reducible exact LeO.refl _)
      | (with_reducible exact LeO.none _)
      | (with_reducible refine LeO.ite ?_ ?_)
      | (with_reducible refine LeO.bind ?_ (fun _ => ?_))
    · intro y0 y1 y2 y3 y4 y5 y6
      unfold spec_l01Put.j2
      repeat' first
      | (with_reducible exact ih0 _ _ _ _ _)
      | (with_reducible exact ih1 _ _ _ _ _ _ _)
      | (with_reducible exact ih2 _ _ _ _ _)
      | (with_reducible exact spec_l01Plus.mono _ _ _ _ _)
      | (with_reducible exact LeO.refl _)
      | (with_reducible exact LeO.none _)
      | (with_reducible refine LeO.ite ?_ ?_)
      | (with_reducible refine LeO.bind ?_ (fun _ => ?_))
    · intro y0 y1 y2 y3 y4
      unfold spec_l01Put.l0
      repeat' first
      | (with_reducible exact ih0 _ _ _ _ _)
      | (with_reducible exact ih1 _ _ _ _ _ _ _)
      | (with_reducible exact ih2 _ _ _ _ _)
      | (with_reducible exact spec_l01Plus.mono _ _ _ _ _)
      | (with_reducible exact LeO.refl _)
      | (with_reducible exact LeO.none _)
      | (with_reducible refine LeO.ite ?_ ?_)
      | (with_reducible refine LeO.bind ?_ (fun _ => ?_))
theorem spec_l01Put.mono : ∀ a0 a1 a2 a3 k, LeO (spec_l01Put.f k a0 a1 a2 a3) (spec_l01Put.f (k + 1) a0 a1 a2 a3) := by
  intro a0 a1 a2 a3 k
  obtain ⟨ih0, ih1, ih2⟩ := spec_l01Put.mono_l k
  unfold spec_l01Put.f
  repeat' first
      | (with_reducible exact ih0 _ _ _ _ _)
      | (with_reducible exact ih1 _ _ _ _ _ _ _)
      | (with_reducible exact ih2 _ _ _ _ _)
      | (with_reducible exact spec_l01Plus.mono _ _ _ _ _)
      | (with_reducible exact LeO.refl _)
      | (with_reducible exact LeO.none _)
      | (with_reducible refine LeO.ite ?_ ?_)
      | (with_reducible refine LeO.bind ?_ (fun _ => ?_))
def spec_l01Put.T6 : Bool × List (List Nat × List Nat) := (true, [([], []), ([], []), ([0, 1], [0, 1]), ([2], [2]), ([3], [3]), ([], []), ([4, 5], [4, 5]), ([6], [6]), ([7], [7]), ([7], [7]), ([], []), ([10, 8, 6, 0, 1, 2, 3, 4, 5, 6, 7, 8, 10], [8, 10]), ([9, 11, 0, 1, 2, 3, 4, 5, 6, 7, 8, 9, 10, 11], [9])])
def spec_l01Put.B6 : List Nat := [0, 0, 3, 7, 15, 0, 63, 127, 255, 255, 0, 1535, 4095]
theorem spec_l01Put.tab6 : rtab .any (opsOf Try.f93 6) = spec_l01Put.T6 := by kernel_rfl
theorem spec_l01Put.bits6 : waitsOk spec_l01Put.T6.2 spec_l01Put.B6 = true := by kernel_rfl
set_option maxHeartbeats 8000000 in
set_option maxRecDepth 100000 in
theorem spec_l01Put.calls (k : Nat) (A0 : Option Addr) (c0 : Nat) (l0 : List (S89)) (a1 : ByteArray) (a2_0 : Int) (a2_1 : Int) (r1 : List (S89)) (r2 : Bool) (w : World) (hr0 : Kd.C k89 w A0 l0.length l0) (hc0 : l0.length ≤ c0) (h : spec_l01Put.f k l0 a1 a2_0 a2_1 = some (r1, r2)) :
    Calls Try.prog 93 #[.slice A0 l0.length c0, .string a1, .agg #[.int .i64 a2_0, .int .i64 a2_1]] w fun e w' => ∃ v0_ : Value, e = .returned (.tuple #[v0_, .bool r2]) ∧ Kd.R k89 89 w' w.heap.size (fun _ => True) v0_ r1 ∧ Below w.heap.size w w' := by
  have hu27 := Try.underlying27
  have hu89 := Try.underlying89
  have HR0 := Aside0.mk hr0
  have HC0 := Aside0.mk hc0
  clear hr0 hc0
  have HB := Aside0.mk (Below.refl w.heap.size w)
  have H : (spec_l01Put.l0 k l0 a1 0 a2_0 a2_1) = some (r1, r2) := h
  clear h
  have HC4 := Aside0.mk H
  clear H
  go_enter Try.func93, Try.ntmps93
  go_upto_block 0 with (first | ((with_reducible refine gate_dst (N := 5) rfl ?_); refine box_event ?hg (N := 5) ?hd (cs := #[.int .i64 a2_0, .int .i64 a2_1]) (t := 27) ?hr ?_; (case hd => rfl); (case hg => rfl); (case hr => first | (go_simp; done) | (go_simp; rfl)); intro gb194 hg w5 hbox hb; have n0_ := Aside0.mk (below_step zB hb); have n1_ := Aside0.mk (hbox); have n2_ := Aside0.mk (zG : w.heap.size ≤ gb194); have n3_ := Aside0.mk (zG : w.heap.size ≤ gb194); clear HB; have HB := n0_; have BK194 := n1_; have GW194 := n2_; have GE194 := n3_; clear n0_ n1_ n2_ n3_; clear hb hbox hg))
  (try simp only [Act.put, List.setIfInBounds_toArray, List.set_cons_zero, List.set_cons_succ])
  go_cut [8] (fun v8 wc => ∃ (kq : Nat) (x8_3 : Int), v8 = .int .i64 x8_3 ∧ Aside0 (spec_l01Put.j1 kq l0 a1 x8_3 a2_0 a2_1 = some (r1, r2)) ∧ Aside0 (kq ≤ k) ∧ Aside0 (wc.heap[gb194]? = some (.cells #[.int .i64 a2_0, .int .i64 a2_1] 27 (0, 0))) ∧ Aside0 (Below w.heap.size w wc))
  case first =>
    have H := HC4.out
    clear HC4
    have H' := Aside0.mk H
    clear H
    go_wp2
    go_loopg [8] k (fun kq v8 w' => ∃ (x8_1 : Int), v8 = .int .i64 x8_1 ∧ Aside0 (spec_l01Put.l0 kq l0 a1 x8_1 a2_0 a2_1 = some (r1, r2)) ∧ Aside0 (kq ≤ k) ∧ Aside0 (w'.heap[gb194]? = some (.cells #[.int .i64 a2_0, .int .i64 a2_1] 27 (0, 0))) ∧ Aside0 (Below w.heap.size w w'))
    case atStart => exact ⟨(0), (by first | rfl | (simp; done) | (simp [*]; done)), H', ⟨Nat.le_refl _⟩, ⟨zK⟩, ⟨zB⟩⟩
    case round =>
      clear H'
      obtain ⟨x8_1, rfl, HA, HK1, BK194, HB⟩ := hrel
      cases gk with
      | zero => exact absurd HA.out (by simp [spec_l01Put.l0])
      | succ k1 =>
        have H := HA.out
        clear HA
        simp only [spec_l01Put.l0] at H
        by_cases c6 : x8_1 < (l0.length : Int)
        · rw [if_pos c6] at H
          have c6b0 : decide (x8_1 < (l0.length : Int)) = true := decide_eq_true c6
          clear c6
          (first | rw [c6b0] | (simp only [i64_w, i32_w]; rw [c6b0]) | skip)
          by_cases c7 : 0 ≤ x8_1
          · rw [if_pos c7] at H
            have c7b0 : decide (0 ≤ x8_1) = true := decide_eq_true c7
            clear c7
            replace H := Option.bind_eq_some_iff.mp H
            obtain ⟨t196, A80, H⟩ := H
            replace H : (if t196 = true then (spec_l01Put.l0 k1 l0 a1 (wrap64 (x8_1 + 1)) a2_0 a2_1) else (spec_l01Put.j1 k1 l0 a1 x8_1 a2_0 a2_1)) = some (r1, r2) := H
            have A8 := Aside0.mk A80
            clear A80
            by_cases c9 : t196 = true
            ·subst c9
             have H1 : (spec_l01Put.l0 k1 l0 a1 (wrap64 (x8_1 + 1)) a2_0 a2_1) = some (r1, r2) := by rw [if_pos rfl] at H; exact H
             clear H
             have H := H1
             clear H1
             have H' := Aside0.mk H
             clear H
             have p195 : 0 ≤ (x8_1 : Int) := zD
             have q195 : x8_1 < (l0.length : Int) := zD
             obtain ⟨ad195, e195, hx195_0, hx195_1, hx195_2⟩ := at_T89 HR0.out x8_1 p195 q195
             cases e195
             replace hx195_0 := zH HB hx195_0
             replace hx195_1 := zH HB hx195_1
             replace hx195_2 := zH HB hx195_2
             replace p195 := eq_true p195
             replace q195 := eq_true q195
             go_wp2_with (first | (go_at_call 105; (with_reducible refine (spec_l01Before.calls ((rd_T89 l0 x8_1).f0) a1 true _ A8.out).mono ?_); rintro e w' ⟨rfl, ⟨nd, rfl⟩⟩))
             go_roundg k1
             case measure => have := HK1.out; omega
             case rel => exact ⟨(wrap64 (x8_1 + 1)), (by first | rfl | (simp; done) | (simp [*]; done)), H', ⟨by have := HK1.out; omega⟩, ⟨zK⟩, ⟨zB⟩⟩
            ·replace c9 := Bool.eq_false_iff.mpr c9
             subst c9
             have H1 : (spec_l01Put.j1 k1 l0 a1 x8_1 a2_0 a2_1) = some (r1, r2) := by rw [if_neg (show ¬ (false = true) by decide)] at H; exact H
             clear H
             have H := H1
             clear H1
             have H' := Aside0.mk H
             clear H
             have p195 : 0 ≤ (x8_1 : Int) := zD
             have q195 : x8_1 < (l0.length : Int) := zD
             obtain ⟨ad195, e195, hx195_0, hx195_1, hx195_2⟩ := at_T89 HR0.out x8_1 p195 q195
             cases e195
             replace hx195_0 := zH HB hx195_0
             replace hx195_1 := zH HB hx195_1
             replace hx195_2 := zH HB hx195_2
             replace p195 := eq_true p195
             replace q195 := eq_true q195
             go_wp2_with (first | (go_at_call 105; (with_reducible refine (spec_l01Before.calls ((rd_T89 l0 x8_1).f0) a1 false _ A8.out).mono ?_); rintro e w' ⟨rfl, ⟨nd, rfl⟩⟩))
             go_meet
             case rel => exact ⟨_, (x8_1), (by first | rfl | (simp; done) | (simp [*]; done)), H', ⟨by have := HK1.out; first | omega | exact Nat.le_refl _⟩, ⟨zK⟩, ⟨zB⟩⟩
          · rw [if_neg c7] at H
            exact absurd H (by simp)
        · rw [if_neg c6] at H
          have c6b0 : decide (x8_1 < (l0.length : Int)) = false := decide_eq_false c6
          clear c6
          (first | rw [c6b0] | (simp only [i64_w, i32_w]; rw [c6b0]) | skip)
          have H' := Aside0.mk H
          clear H
          go_wp2
          go_meet
          case rel => exact ⟨_, (x8_1), (by first | rfl | (simp; done) | (simp [*]; done)), H', ⟨by have := HK1.out; first | omega | exact Nat.le_refl _⟩, ⟨zK⟩, ⟨zB⟩⟩
  case rest =>
    clear HC4
    obtain ⟨kq, x8_3, rfl, HA, HJ3, BK194, HB⟩ := hcut
    cases kq with
    | zero => exact absurd HA.out (by simp [spec_l01Put.j1])
    | succ kj3 =>
      have H := HA.out
      clear HA
      simp only [spec_l01Put.j1] at H
      obtain ⟨y197, hy197⟩ : ∃ y_ : List (S89), y_ = (([] : List (S89))) := ⟨_, rfl⟩
      replace H : (if 0 ≤ x8_3 then (if x8_3 ≤ (l0.length : Int) then ((some (l0.take (x8_3 : Int).toNat : List (S89))).bind fun y200 => (if y197.length + y200.length < 4398046511104 then ((some (y197 ++ y200 : List (S89))).bind fun y204 => (if x8_3 < (l0.length : Int) then (spec_l01Put.j2 kj3 l0 a1 x8_3 y204 (((rd_T89 l0 x8_3).f0).toList == a1.toList) a2_0 a2_1) else (spec_l01Put.j2 kj3 l0 a1 x8_3 y204 false a2_0 a2_1))) else (none))) else (none)) else (none)) = some (r1, r2) := by first | (rw [hy197]; with_reducible exact H) | (have H2_ := (Option.bind_some _ _).symm.trans H; rw [hy197]; with_reducible exact H2_) | (have H2_ := (Option.bind_some _ _).symm.trans H; with_reducible exact H2_) | with_reducible exact H | (rw [hy197]; exact H) | exact H
      have Ny197 := Aside0.mk hy197
      clear hy197
      by_cases c10 : 0 ≤ x8_3
      · rw [if_pos c10] at H
        have c10b0 := eq_true c10
        have c10b1 : decide (0 ≤ x8_3) = true := decide_eq_true c10
        clear c10
        by_cases c11 : x8_3 ≤ (l0.length : Int)
        · rw [if_pos c11] at H
          have c11b0 := eq_true c11
          have c11b1 : decide (x8_3 ≤ (l0.length : Int)) = true := decide_eq_true c11
          clear c11
          obtain ⟨y200, hy200⟩ : ∃ y_ : List (S89), y_ = (l0.take (x8_3 : Int).toNat) := ⟨_, rfl⟩
          replace H : (if y197.length + y200.length < 4398046511104 then ((some (y197 ++ y200 : List (S89))).bind fun y204 => (if x8_3 < (l0.length : Int) then (spec_l01Put.j2 kj3 l0 a1 x8_3 y204 (((rd_T89 l0 x8_3).f0).toList == a1.toList) a2_0 a2_1) else (spec_l01Put.j2 kj3 l0 a1 x8_3 y204 false a2_0 a2_1))) else (none)) = some (r1, r2) := by first | (rw [hy200]; with_reducible exact H) | (have H2_ := (Option.bind_some _ _).symm.trans H; rw [hy200]; with_reducible exact H2_) | (have H2_ := (Option.bind_some _ _).symm.trans H; with_reducible exact H2_) | with_reducible exact H | (rw [hy200]; exact H) | exact H
          have Ny200 := Aside0.mk hy200
          clear hy200
          by_cases c12 : y197.length + y200.length < 4398046511104
          · rw [if_pos c12] at H
            have LMc12 := Aside0.mk c12
            clear c12
            obtain ⟨y204, hy204⟩ : ∃ y_ : List (S89), y_ = (y197 ++ y200) := ⟨_, rfl⟩
            replace H : (if x8_3 < (l0.length : Int) then (spec_l01Put.j2 kj3 l0 a1 x8_3 y204 (((rd_T89 l0 x8_3).f0).toList == a1.toList) a2_0 a2_1) else (spec_l01Put.j2 kj3 l0 a1 x8_3 y204 false a2_0 a2_1)) = some (r1, r2) := by first | (rw [hy204]; with_reducible exact H) | (have H2_ := (Option.bind_some _ _).symm.trans H; rw [hy204]; with_reducible exact H2_) | (have H2_ := (Option.bind_some _ _).symm.trans H; with_reducible exact H2_) | with_reducible exact H | (rw [hy204]; exact H) | exact H
            have Ny204 := Aside0.mk hy204
            clear hy204
            have HC13 := Aside0.mk H
            clear H
            go_upto_region 5 with (first | ((with_reducible refine gate_dst (N := 27) rfl ?_); refine Kd.R_lit k89 _ 89 ?hg (N := 27) ?hd (xs := ([] : List (S89))) (inner := []) (ok := fun _ => True) (okp := fun _ => True) ?hr ?hp (fun _ hk => hk) trivial (Below.refl _ _) (Nat.le_refl _) (by simp) ?_; (case hd => rfl); (case hg => rfl); (case hr => first | (go_simp; done) | (go_simp; rfl)); (case hp => exact (Reps.none _ _)); intro v198 w14 ho15 hb hg_ hnew_; clear hg_ hnew_; (first | rw [← Ny197.out] at ho15 | (simp only [Int.reduceToNat] at ho15; rw [← Ny197.out] at ho15)); have n0_ := Aside0.mk (Kd.R_lower ho15 (below_size zB)); have n1_ := Aside0.mk (blk_below (g := gb194) (o := .cells #[.int .i64 a2_0, .int .i64 a2_1] 27 (0, 0)) zK hb); have n2_ := Aside0.mk (below_step zB hb); clear BK194; clear HB; have HO199 := n0_; have BK194 := n1_; have HB := n2_; clear n0_ n1_ n2_; clear hb ho15; have q16 : (x8_3 : Int) ≤ ((l0.length : Int) : Int) := zD; obtain ⟨i016, hi016, _, hsz16, _⟩ := info_parts info89; have hroom16 : l0.length ≤ c0 := HC0.out; have hC16 : Kd.C k89 _ A0 l0.length l0 := HR0.out; have hcut16 := cut_to (P := Try.prog) 30 89 .i64 Try.underlying30 hi016 A0 l0.length c0 x8_3 (zD) q16 hroom16; have hr16 := Kd.C_take (m := (x8_3 : Int).toNat) hC16 (by omega); have hy16 : y200.length = (x8_3 : Int).toNat := (by rw [Ny200.out, List.length_take]; omega); rw [← Ny200.out] at hr16; rw [← hy16] at hcut16; have HR203 := Aside0.mk hr16; have HC203 := Aside0.mk (show y200.length ≤ c0 from by omega); clear hr16 hC16 hroom16 hi016 hsz16; have KY16 := Aside0.mk hy16; clear hy16; replace q16 := eq_true q16) | ((with_reducible refine gate_builtin (b := .append) (xs := #[.tmp 27, .tmp 30]) rfl ?_); at_builtin; refine Kd.R_append_rows k89 (w0 := w) w.heap.size rfl (.tmp 27) (.tmp 30) 30 89 (.agg #[(.string ⟨#[]⟩), (.int .i64 0), (.int .i64 0)]) 32 rfl Try.underlying30 info89 rfl (by decide) (by omega) v198 y197 y200 _ _ _ (fun _ => True) (fun _ => False) rfl rfl ?aO ?aR (fun _ _ h => h) (fun _ h => h.elim) ?aF ?aB ?aS ?aL ?_; (case aR => repeat (first | exact (Kd.C_below HR203.out HB.out) | (with_reducible refine Kd.C_alloc ?_ _) | (with_reducible refine Kd.C_drewN ?_ _) | (with_reducible refine Kd.C_drew ?_))); (case aB => exact zB); (case aF => exact (fun _ _ => trivial)); (case aO => exact zR); (case aS => exact (below_size zB)); (case aL => have := LMc12.out; omega); intro v205 w17 ho hb hg hat; rw [← Ny204.out] at ho; have n0_ := Aside0.mk (blk_grown (g := gb194) (o := .cells #[.int .i64 a2_0, .int .i64 a2_1] 27 (0, 0)) zK hg (Kd.R_ne HO199.out BK194.out (by decide))); have n1_ := Aside0.mk (hb); have n2_ := Aside0.mk (ho); clear BK194; clear HB; clear HO199; have BK194 := n0_; have HB := n1_; have HO206 := n2_; clear n0_ n1_ n2_; clear ho hb hg hat))
            (try simp only [Act.put, List.setIfInBounds_toArray, List.set_cons_zero, List.set_cons_succ])
            go_cut [44] (fun v44 wc => ∃ (kq : Nat) (x44_12 : Bool), v44 = .bool x44_12 ∧ Aside0 (spec_l01Put.j2 kq l0 a1 x8_3 y204 x44_12 a2_0 a2_1 = some (r1, r2)) ∧ Aside0 (kq ≤ kj3) ∧ Aside0 (Kd.R k89 89 wc w.heap.size (fun _ => True) v205 y204) ∧ Aside0 (wc.heap[gb194]? = some (.cells #[.int .i64 a2_0, .int .i64 a2_1] 27 (0, 0))) ∧ Aside0 (Below w.heap.size w wc))
            case first =>
             have H := HC13.out
             clear HC13
             by_cases c18 : x8_3 < (l0.length : Int)
             ·rw [if_pos c18] at H
              have c18b0 : decide (x8_3 < (l0.length : Int)) = true := decide_eq_true c18
              clear c18
              (first | rw [c18b0] | (simp only [i64_w, i32_w]; rw [c18b0]) | skip)
              have H' := Aside0.mk H
              clear H
              have p207 : 0 ≤ (x8_3 : Int) := zD
              have q207 : x8_3 < (l0.length : Int) := zD
              obtain ⟨ad207, e207, hx207_0, hx207_1, hx207_2⟩ := at_T89 HR0.out x8_3 p207 q207
              cases e207
              replace hx207_0 := zH HB hx207_0
              replace hx207_1 := zH HB hx207_1
              replace hx207_2 := zH HB hx207_2
              replace p207 := eq_true p207
              replace q207 := eq_true q207
              go_wp2
              go_meet
              case rel => exact ⟨_, ((((rd_T89 l0 x8_3).f0).toList == a1.toList)), (by first | rfl | (simp; done) | (simp [*]; done)), H', ⟨by have := HJ3.out; first | omega | exact Nat.le_refl _⟩, ⟨zR⟩, ⟨zK⟩, ⟨zB⟩⟩
             ·rw [if_neg c18] at H
              have c18b0 : decide (x8_3 < (l0.length : Int)) = false := decide_eq_false c18
              clear c18
              (first | rw [c18b0] | (simp only [i64_w, i32_w]; rw [c18b0]) | skip)
              have H' := Aside0.mk H
              clear H
              go_wp2
              go_meet
              case rel => exact ⟨_, (false), (by first | rfl | (simp; done) | (simp [*]; done)), H', ⟨by have := HJ3.out; first | omega | exact Nat.le_refl _⟩, ⟨zR⟩, ⟨zK⟩, ⟨zB⟩⟩
            case rest =>
             clear HC13
             obtain ⟨kq, x44_12, rfl, HA, HJ12, HO_9, BK194, HB⟩ := hcut
             cases kq with
             | zero => exact absurd HA.out (by simp [spec_l01Put.j2])
             | succ kj12 =>
              have H := HA.out
              clear HA
              simp only [spec_l01Put.j2] at H
              by_cases c19 : x44_12 = true
              ·subst c19
               have H1 : (if 0 ≤ x8_3 then (if x8_3 < (l0.length : Int) then ((spec_l01Plus.f kj12 ((rd_T89 l0 x8_3).f1.f0) ((rd_T89 l0 x8_3).f1.f1) a2_0 a2_1).bind fun bt209 => (if bt209.2.2 = true then ((spec_l01Zero.f bt209.1 bt209.2.1).bind fun t213 => (if t213 = true then (if 0 ≤ (wrap64 (x8_3 + 1)) then (if (wrap64 (x8_3 + 1)) ≤ (l0.length : Int) then ((some (l0.drop ((wrap64 (x8_3 + 1)) : Int).toNat : List (S89))).bind fun y214 => (if y204.length + y214.length < 4398046511104 then (some ((y204 ++ y214), true)) else (none))) else (none)) else (none)) else (if y204.length < 4398046511104 then ((some (y204 ++ [(⟨a1, (⟨bt209.1, bt209.2.1⟩ : S27)⟩ : S89)] : List (S89))).bind fun y221 => (if 0 ≤ (wrap64 (x8_3 + 1)) then (if (wrap64 (x8_3 + 1)) ≤ (l0.length : Int) then ((some (l0.drop ((wrap64 (x8_3 + 1)) : Int).toNat : List (S89))).bind fun y224 => (if y221.length + y224.length < 4398046511104 then (some ((y221 ++ y224), true)) else (none))) else (none)) else (none))) else (none)))) else (some (([] : List (S89)), false)))) else (none)) else (none)) = some (r1, r2) := by rw [if_pos rfl] at H; exact H
               clear H
               have H := H1
               clear H1
               by_cases c20 : 0 ≤ x8_3
               ·rw [if_pos c20] at H
                have c20b0 : decide (0 ≤ x8_3) = true := decide_eq_true c20
                clear c20
                by_cases c21 : x8_3 < (l0.length : Int)
                ·rw [if_pos c21] at H
                 have c21b0 : decide (x8_3 < (l0.length : Int)) = true := decide_eq_true c21
                 clear c21
                 replace H := Option.bind_eq_some_iff.mp H
                 obtain ⟨⟨t209, t210, t211⟩, A220, H⟩ := H
                 replace H : (if t211 = true then ((spec_l01Zero.f t209 t210).bind fun t213 => (if t213 = true then (if 0 ≤ (wrap64 (x8_3 + 1)) then (if (wrap64 (x8_3 + 1)) ≤ (l0.length : Int) then ((some (l0.drop ((wrap64 (x8_3 + 1)) : Int).toNat : List (S89))).bind fun y214 => (if y204.length + y214.length < 4398046511104 then (some ((y204 ++ y214), true)) else (none))) else (none)) else (none)) else (if y204.length < 4398046511104 then ((some (y204 ++ [(⟨a1, (⟨t209, t210⟩ : S27)⟩ : S89)] : List (S89))).bind fun y221 => (if 0 ≤ (wrap64 (x8_3 + 1)) then (if (wrap64 (x8_3 + 1)) ≤ (l0.length : Int) then ((some (l0.drop ((wrap64 (x8_3 + 1)) : Int).toNat : List (S89))).bind fun y224 => (if y221.length + y224.length < 4398046511104 then (some ((y221 ++ y224), true)) else (none))) else (none)) else (none))) else (none)))) else (some (([] : List (S89)), false))) = some (r1, r2) := H
                 have A22 := Aside0.mk A220
                 clear A220
                 by_cases c23 : t211 = true
                 ·subst c23
                  have H1 : ((spec_l01Zero.f t209 t210).bind fun t213 => (if t213 = true then (if 0 ≤ (wrap64 (x8_3 + 1)) then (if (wrap64 (x8_3 + 1)) ≤ (l0.length : Int) then ((some (l0.drop ((wrap64 (x8_3 + 1)) : Int).toNat : List (S89))).bind fun y214 => (if y204.length + y214.length < 4398046511104 then (some ((y204 ++ y214), true)) else (none))) else (none)) else (none)) else (if y204.length < 4398046511104 then ((some (y204 ++ [(⟨a1, (⟨t209, t210⟩ : S27)⟩ : S89)] : List (S89))).bind fun y221 => (if 0 ≤ (wrap64 (x8_3 + 1)) then (if (wrap64 (x8_3 + 1)) ≤ (l0.length : Int) then ((some (l0.drop ((wrap64 (x8_3 + 1)) : Int).toNat : List (S89))).bind fun y224 => (if y221.length + y224.length < 4398046511104 then (some ((y221 ++ y224), true)) else (none))) else (none)) else (none))) else (none)))) = some (r1, r2) := by rw [if_pos rfl] at H; exact H
                  clear H
                  have H := H1
                  clear H1
                  replace H := Option.bind_eq_some_iff.mp H
                  obtain ⟨t213, A240, H⟩ := H
                  replace H : (if t213 = true then (if 0 ≤ (wrap64 (x8_3 + 1)) then (if (wrap64 (x8_3 + 1)) ≤ (l0.length : Int) then ((some (l0.drop ((wrap64 (x8_3 + 1)) : Int).toNat : List (S89))).bind fun y214 => (if y204.length + y214.length < 4398046511104 then (some ((y204 ++ y214), true)) else (none))) else (none)) else (none)) else (if y204.length < 4398046511104 then ((some (y204 ++ [(⟨a1, (⟨t209, t210⟩ : S27)⟩ : S89)] : List (S89))).bind fun y221 => (if 0 ≤ (wrap64 (x8_3 + 1)) then (if (wrap64 (x8_3 + 1)) ≤ (l0.length : Int) then ((some (l0.drop ((wrap64 (x8_3 + 1)) : Int).toNat : List (S89))).bind fun y224 => (if y221.length + y224.length < 4398046511104 then (some ((y221 ++ y224), true)) else (none))) else (none)) else (none))) else (none))) = some (r1, r2) := H
                  have A24 := Aside0.mk A240
                  clear A240
                  by_cases c25 : t213 = true
                  ·subst c25
                   have H1 : (if 0 ≤ (wrap64 (x8_3 + 1)) then (if (wrap64 (x8_3 + 1)) ≤ (l0.length : Int) then ((some (l0.drop ((wrap64 (x8_3 + 1)) : Int).toNat : List (S89))).bind fun y214 => (if y204.length + y214.length < 4398046511104 then (some ((y204 ++ y214), true)) else (none))) else (none)) else (none)) = some (r1, r2) := by rw [if_pos rfl] at H; exact H
                   clear H
                   have H := H1
                   clear H1
                   obtain ⟨ji26, hji26⟩ : ∃ j_ : Int, (wrap64 (x8_3 + 1)) = j_ := ⟨_, rfl⟩
                   replace H : (if 0 ≤ (ji26) then (if (ji26) ≤ (l0.length : Int) then ((some (l0.drop ((ji26) : Int).toNat : List (S89))).bind fun y214 => (if y204.length + y214.length < 4398046511104 then (some ((y204 ++ y214), true)) else (none))) else (none)) else (none)) = some (r1, r2) := by first | (rw [hji26] at H; exact H) | (simp only [hji26] at H ⊢; exact H)
                   (try rw [hji26] at A22)
                   (try rw [hji26] at A24)
                   have hji26w : (IntKind.i64.wrap (x8_3 + 1)) = ji26 := (i64_w _).trans hji26
                   by_cases c27 : 0 ≤ (ji26)
                   ·rw [if_pos c27] at H
                    have c27b0 := eq_true c27
                    have c27b1 : decide (0 ≤ (ji26)) = true := decide_eq_true c27
                    clear c27
                    by_cases c28 : (ji26) ≤ (l0.length : Int)
                    ·rw [if_pos c28] at H
                     have c28b0 := eq_true c28
                     have c28b1 : decide ((ji26) ≤ (l0.length : Int)) = true := decide_eq_true c28
                     clear c28
                     obtain ⟨y214, hy214⟩ : ∃ y_ : List (S89), y_ = (l0.drop ((ji26) : Int).toNat) := ⟨_, rfl⟩
                     replace H : (if y204.length + y214.length < 4398046511104 then (some ((y204 ++ y214), true)) else (none)) = some (r1, r2) := by first | (rw [hy214]; with_reducible exact H) | (have H2_ := (Option.bind_some _ _).symm.trans H; rw [hy214]; with_reducible exact H2_) | (have H2_ := (Option.bind_some _ _).symm.trans H; with_reducible exact H2_) | with_reducible exact H | (rw [hy214]; exact H) | exact H
                     have Ny214 := Aside0.mk hy214
                     clear hy214
                     by_cases c29 : y204.length + y214.length < 4398046511104
                     ·rw [if_pos c29] at H
                      have LMc29 := Aside0.mk c29
                      clear c29
                      obtain ⟨y218, hy218⟩ : ∃ y_ : List (S89), y_ = (y204 ++ y214) := ⟨_, rfl⟩
                      replace H : (some (y218, true)) = some (r1, r2) := by first | (rw [hy218]; with_reducible exact H) | (have H2_ := (Option.bind_some _ _).symm.trans H; rw [hy218]; with_reducible exact H2_) | (have H2_ := (Option.bind_some _ _).symm.trans H; with_reducible exact H2_) | with_reducible exact H | (rw [hy218]; exact H) | exact H
                      have Ny218 := Aside0.mk hy218
                      clear hy218
                      simp only [Option.some.injEq, Prod.mk.injEq] at H
                      obtain ⟨rfl, rfl⟩ := H
                      try go_wp2
                      have n0_ := Aside0.mk (Kd.R_drew HO_9.out)
                      have n1_ := Aside0.mk (blk_drew BK194.out)
                      have n2_ := Aside0.mk (below_drew1 HB.out)
                      clear HO_9
                      clear BK194
                      clear HB
                      have HO_9 := n0_
                      have BK194 := n1_
                      have HB := n2_
                      clear n0_ n1_ n2_
                      have p208 : 0 ≤ (x8_3 : Int) := zD
                      have q208 : x8_3 < (l0.length : Int) := zD
                      obtain ⟨ad208, e208, hx208_0, hx208_1, hx208_2⟩ := at_T89 HR0.out x8_3 p208 q208
                      have hw208_2 := hx208_2
                      have hw208_1 := hx208_1
                      have hw208_0 := hx208_0
                      cases e208
                      replace hx208_0 := zH HB hx208_0
                      replace hx208_1 := zH HB hx208_1
                      replace hx208_2 := zH HB hx208_2
                      replace p208 := eq_true p208
                      replace q208 := eq_true q208
                      refine start_ (n := 13) (S := fun w' => w'.cell? ⟨gb194, 0, none⟩ = some (.int .i64 a2_0) ∧ w'.cell? ⟨gb194, 1, none⟩ = some (.int .i64 a2_1) ∧ w'.cell? (ad208.add ((x8_3).toNat * 3)) = some (.string ((rd_T89 l0 x8_3).f0)) ∧ w'.cell? ⟨(ad208.add ((x8_3).toNat * 3)).block, (ad208.add ((x8_3).toNat * 3)).off + 1, none⟩ = some (.int .i64 ((rd_T89 l0 x8_3).f1.f0)) ∧ w'.cell? ⟨(ad208.add ((x8_3).toNat * 3)).block, (ad208.add ((x8_3).toNat * 3)).off + 2, none⟩ = some (.int .i64 ((rd_T89 l0 x8_3).f1.f1))) (ds := []) #[false, false, false, false, false, false, false, false, false, false, false, false, false] (by kernel_rfl) rfl rfl ⟨(blk_cell BK194.out 0).trans rfl, (blk_cell BK194.out 1).trans rfl, (zH HB hw208_0 :), (zH HB hw208_1 :), (zH HB hw208_2 :)⟩ (fun hHeld => ?_); refine with_tabW spec_l01Put.tab6 spec_l01Put.bits6 (fun HT_ HW_ => ?_)
                      generalize wc.drew = w30 at HO_9 BK194 HB hx208_0 hx208_1 hx208_2 hHeld ⊢
                      refine zP 0 (N := some 46) (h := ?_)
                      refine zP 1 (N := some 47) (h := ?_)
                      refine zP 2 (N := some 48) (h := ?_)
                      refine zP 3 (N := some 49) (h := ?_)
                      refine zT 4 hHeld (N := some 50) (h := ?_)
                      refine zT 5 hHeld (N := some 51) (h := ?_)
                      refine join_ (σ := Nat) 2 #[true, true, true, true, true, true, true, true, true, true, true, false, false] (fun s_ => [(52, .tuple #[.agg #[.int .i64 t209, .int .i64 t210], .bool true]), (10, .pointer (some ⟨s_, 0, none⟩)), (45, .tuple #[.agg #[.int .i64 t209, .int .i64 t210], .bool true]), (53, .agg #[.int .i64 t209, .int .i64 t210]), (54, .bool true)]) (fun s_ w' => (w'.cell? ⟨gb194, 0, none⟩ = some (.int .i64 a2_0) ∧ w'.cell? ⟨gb194, 1, none⟩ = some (.int .i64 a2_1) ∧ w'.cell? (ad208.add ((x8_3).toNat * 3)) = some (.string ((rd_T89 l0 x8_3).f0)) ∧ w'.cell? ⟨(ad208.add ((x8_3).toNat * 3)).block, (ad208.add ((x8_3).toNat * 3)).off + 1, none⟩ = some (.int .i64 ((rd_T89 l0 x8_3).f1.f0)) ∧ w'.cell? ⟨(ad208.add ((x8_3).toNat * 3)).block, (ad208.add ((x8_3).toNat * 3)).off + 2, none⟩ = some (.int .i64 ((rd_T89 l0 x8_3).f1.f1))) ∧ (Kd.R k89 89 w' w.heap.size (fun _ => True) v205 y204) ∧ (w'.heap[gb194]? = some (.cells #[.int .i64 a2_0, .int .i64 a2_1] 27 (0, 0))) ∧ (w'.heap[s_]? = some (.cells #[.int .i64 0, .int .i64 0] 27 (0, 0))) ∧ (w.heap.size ≤ s_) ∧ (w.heap.size ≤ s_) ∧ (gb194 ≠ s_) ∧ (s_ ≠ gb194) ∧ (Below w.heap.size w w')) ?_ ?_
                      rotate_left
                      ·intro hCont
                       refine two_ (i := 6) (j := 10) (Ni := some 52) (Nj := some 10) #[true, true, true, true, true, true, true, false, false, false, false, false, false] #[true, true, true, true, true, true, false, false, false, false, true, false, false] rfl rfl rfl rfl (two_of HT_.out (by kernel_rfl)) (by decide) (by decide) (fun K hK => ?_) (fun K hK => ?_)
                       ·skip
                        refine goes_ Try.func109 (by kernel_rfl) rfl #[.agg #[.int .i64 ((rd_T89 l0 x8_3).f1.f0), .int .i64 ((rd_T89 l0 x8_3).f1.f1)], .agg #[.int .i64 a2_0, .int .i64 a2_1]] (by rfl) rfl rfl zM ?_
                        with_reducible refine (spec_l01Plus.calls kj12 ((rd_T89 l0 x8_3).f1.f0) ((rd_T89 l0 x8_3).f1.f1) a2_0 a2_1 t209 t210 true _ A22.out).mono ?_
                        rintro e w31 ⟨rfl, hb⟩
                        refine ⟨_, rfl, ?_⟩
                        have n0_ := Aside0.mk (Kd.R_below (by (with_reducible repeat (first | apply Kd.R_alloc | apply Kd.R_drewN | apply Kd.R_drew)); exact HO_9.out) hb)
                        have n1_ := Aside0.mk (blk_below (g := gb194) (o := .cells #[.int .i64 a2_0, .int .i64 a2_1] 27 (0, 0)) zK hb)
                        have n2_ := Aside0.mk (below_step zB hb)
                        clear HO_9
                        clear BK194
                        clear HB
                        have HO_9 := n0_
                        have BK194 := n1_
                        have HB := n2_
                        clear n0_ n1_ n2_
                        (try clear hb)
                        (try clear hb2)
                        (try clear hk)
                        (try clear hi)
                        refine hK.out _ _ ⟨(blk_cell BK194.out 0).trans rfl, (blk_cell BK194.out 1).trans rfl, (zH HB hw208_0 :), (zH HB hw208_1 :), (zH HB hw208_2 :)⟩ (fun hHeld => ?_)
                        clear hK K
                        refine norm_ (a' := ?_) ?_ ?_
                        rotate_left
                        ·show Act.put _ (some 52) _ = _
                         simp only [Act.put, List.setIfInBounds_toArray, List.set_cons_zero, List.set_cons_succ, i64_w, i32_w]
                         rfl
                        refine zP 7 (N := some 45) (h := ?_)
                        refine zP 8 (N := some 53) (h := ?_)
                        refine zP 9 (N := some 54) (h := ?_)
                        refine one_ (i := 10) (N := some 10) #[true, true, true, true, true, true, true, true, true, true, true, false, false] rfl rfl (one_of HT_.out (by kernel_rfl)) (by decide) (fun K hK => ?_)
                        refine box_step ?hg (N := 10) ?hd (cs := #[.int .i64 0, .int .i64 0]) (t := 27) ?hr ?_; (case hd => rfl); (case hg => rfl); (case hr => first | (go_simp; done) | (go_simp; rfl))
                        intro gb212 hg w32 hbox hb
                        have n0_ := Aside0.mk (Kd.R_below (by (with_reducible repeat (first | apply Kd.R_alloc | apply Kd.R_drewN | apply Kd.R_drew)); exact HO_9.out) hb)
                        have n1_ := Aside0.mk (blk_below (g := gb194) (o := .cells #[.int .i64 a2_0, .int .i64 a2_1] 27 (0, 0)) zK hb)
                        have n2_ := Aside0.mk (below_step zB hb)
                        have n3_ := Aside0.mk (hbox)
                        have n4_ := Aside0.mk (zG : w.heap.size ≤ gb212)
                        have n5_ := Aside0.mk (zG : w.heap.size ≤ gb212)
                        have n6_ := Aside0.mk ((by rw [hg]; exact Nat.ne_of_lt (blk_lt (g := gb194) (o := .cells #[.int .i64 a2_0, .int .i64 a2_1] 27 (0, 0)) zK) : gb194 ≠ gb212))
                        have n7_ := Aside0.mk ((by rw [hg]; exact Nat.ne_of_gt (blk_lt (g := gb194) (o := .cells #[.int .i64 a2_0, .int .i64 a2_1] 27 (0, 0)) zK) : gb212 ≠ gb194))
                        clear HO_9
                        clear BK194
                        clear HB
                        have HO_9 := n0_
                        have BK194 := n1_
                        have HB := n2_
                        have BK212 := n3_
                        have GW212 := n4_
                        have GE212 := n5_
                        have NB194_212 := n6_
                        have NB212_194 := n7_
                        clear n0_ n1_ n2_ n3_ n4_ n5_ n6_ n7_
                        clear hb hbox hg
                        refine hK.out _ _ ⟨(blk_cell BK194.out 0).trans rfl, (blk_cell BK194.out 1).trans rfl, (zH HB hw208_0 :), (zH HB hw208_1 :), (zH HB hw208_2 :)⟩ (fun hHeld => ?_)
                        clear hK K
                        refine norm_ (a' := ?_) ?_ ?_
                        rotate_left
                        ·show Act.put _ (some 10) _ = _
                         simp only [Act.put, List.setIfInBounds_toArray, List.set_cons_zero, List.set_cons_succ, i64_w, i32_w]
                         rfl
                        exact norm_ (by simp only [putAll, Act.put, List.setIfInBounds_toArray, List.set_cons_zero, List.set_cons_succ]) (hCont (gb212) _ ⟨hHeld, zR, zK, zK, GW212.out, GE212.out, NB194_212.out, NB212_194.out, zB⟩)
                       ·skip
                        refine box_step ?hg (N := 10) ?hd (cs := #[.int .i64 0, .int .i64 0]) (t := 27) ?hr ?_; (case hd => rfl); (case hg => rfl); (case hr => first | (go_simp; done) | (go_simp; rfl))
                        intro gb212 hg w31 hbox hb
                        have n0_ := Aside0.mk (Kd.R_below (by (with_reducible repeat (first | apply Kd.R_alloc | apply Kd.R_drewN | apply Kd.R_drew)); exact HO_9.out) hb)
                        have n1_ := Aside0.mk (blk_below (g := gb194) (o := .cells #[.int .i64 a2_0, .int .i64 a2_1] 27 (0, 0)) zK hb)
                        have n2_ := Aside0.mk (below_step zB hb)
                        have n3_ := Aside0.mk (hbox)
                        have n4_ := Aside0.mk (zG : w.heap.size ≤ gb212)
                        have n5_ := Aside0.mk (zG : w.heap.size ≤ gb212)
                        have n6_ := Aside0.mk ((by rw [hg]; exact Nat.ne_of_lt (blk_lt (g := gb194) (o := .cells #[.int .i64 a2_0, .int .i64 a2_1] 27 (0, 0)) zK) : gb194 ≠ gb212))
                        have n7_ := Aside0.mk ((by rw [hg]; exact Nat.ne_of_gt (blk_lt (g := gb194) (o := .cells #[.int .i64 a2_0, .int .i64 a2_1] 27 (0, 0)) zK) : gb212 ≠ gb194))
                        clear HO_9
                        clear BK194
                        clear HB
                        have HO_9 := n0_
                        have BK194 := n1_
                        have HB := n2_
                        have BK212 := n3_
                        have GW212 := n4_
                        have GE212 := n5_
                        have NB194_212 := n6_
                        have NB212_194 := n7_
                        clear n0_ n1_ n2_ n3_ n4_ n5_ n6_ n7_
                        clear hb hbox hg
                        refine hK.out _ _ ⟨(blk_cell BK194.out 0).trans rfl, (blk_cell BK194.out 1).trans rfl, (zH HB hw208_0 :), (zH HB hw208_1 :), (zH HB hw208_2 :)⟩ (fun hHeld => ?_)
                        clear hK K
                        refine norm_ (a' := ?_) ?_ ?_
                        rotate_left
                        ·show Act.put _ (some 10) _ = _
                         simp only [Act.put, List.setIfInBounds_toArray, List.set_cons_zero, List.set_cons_succ, i64_w, i32_w]
                         rfl
                        refine one_ (i := 6) (N := some 52) #[true, true, true, true, true, true, true, false, false, false, true, false, false] rfl rfl (one_of HT_.out (by kernel_rfl)) (by decide) (fun K hK => ?_)
                        refine goes_ Try.func109 (by kernel_rfl) rfl #[.agg #[.int .i64 ((rd_T89 l0 x8_3).f1.f0), .int .i64 ((rd_T89 l0 x8_3).f1.f1)], .agg #[.int .i64 a2_0, .int .i64 a2_1]] (by rfl) rfl rfl zM ?_
                        with_reducible refine (spec_l01Plus.calls kj12 ((rd_T89 l0 x8_3).f1.f0) ((rd_T89 l0 x8_3).f1.f1) a2_0 a2_1 t209 t210 true _ A22.out).mono ?_
                        rintro e w32 ⟨rfl, hb⟩
                        refine ⟨_, rfl, ?_⟩
                        have n0_ := Aside0.mk (Kd.R_below (by (with_reducible repeat (first | apply Kd.R_alloc | apply Kd.R_drewN | apply Kd.R_drew)); exact HO_9.out) hb)
                        have n1_ := Aside0.mk (blk_below (g := gb194) (o := .cells #[.int .i64 a2_0, .int .i64 a2_1] 27 (0, 0)) zK hb)
                        have n2_ := Aside0.mk (blk_below (g := gb212) (o := .cells #[.int .i64 0, .int .i64 0] 27 (0, 0)) zK hb)
                        have n3_ := Aside0.mk (below_step zB hb)
                        clear HO_9
                        clear BK194
                        clear BK212
                        clear HB
                        have HO_9 := n0_
                        have BK194 := n1_
                        have BK212 := n2_
                        have HB := n3_
                        clear n0_ n1_ n2_ n3_
                        (try clear hb)
                        (try clear hb2)
                        (try clear hk)
                        (try clear hi)
                        refine hK.out _ _ ⟨(blk_cell BK194.out 0).trans rfl, (blk_cell BK194.out 1).trans rfl, (zH HB hw208_0 :), (zH HB hw208_1 :), (zH HB hw208_2 :)⟩ (fun hHeld => ?_)
                        clear hK K
                        refine norm_ (a' := ?_) ?_ ?_
                        rotate_left
                        ·show Act.put _ (some 52) _ = _
                         simp only [Act.put, List.setIfInBounds_toArray, List.set_cons_zero, List.set_cons_succ, i64_w, i32_w]
                         rfl
                        refine zP 7 (N := some 45) (h := ?_)
                        refine zP 8 (N := some 53) (h := ?_)
                        refine zP 9 (N := some 54) (h := ?_)
                        exact norm_ (by simp only [putAll, Act.put, List.setIfInBounds_toArray, List.set_cons_zero, List.set_cons_succ]) (hCont (gb212) _ ⟨hHeld, zR, zK, zK, GW212.out, GE212.out, NB194_212.out, NB212_194.out, zB⟩)
                      rintro gb212 w33 ⟨hS_, h0_, h1_, h2_, h3_, h4_, h5_, h6_, h7_⟩
                      have n0_ : Aside0 (Kd.R k89 89 w33 w.heap.size (fun _ => True) v205 y204) := ⟨h0_⟩
                      have n1_ : Aside0 (w33.heap[gb194]? = some (.cells #[.int .i64 a2_0, .int .i64 a2_1] 27 (0, 0))) := ⟨h1_⟩
                      have n2_ : Aside0 (w33.heap[gb212]? = some (.cells #[.int .i64 0, .int .i64 0] 27 (0, 0))) := ⟨h2_⟩
                      have n3_ : Aside0 (w.heap.size ≤ gb212) := ⟨h3_⟩
                      have n4_ : Aside0 (w.heap.size ≤ gb212) := ⟨h4_⟩
                      have n5_ : Aside0 (gb194 ≠ gb212) := ⟨h5_⟩
                      have n6_ : Aside0 (gb212 ≠ gb194) := ⟨h6_⟩
                      have n7_ : Aside0 (Below w.heap.size w w33) := ⟨h7_⟩
                      clear HO_9
                      clear BK194
                      clear HB
                      clear h0_ h1_ h2_ h3_ h4_ h5_ h6_ h7_
                      have HO_9 := n0_
                      have BK194 := n1_
                      have BK212 := n2_
                      have GW212 := n3_
                      have GE212 := n4_
                      have NB194_212 := n5_
                      have NB212_194 := n6_
                      have HB := n7_
                      clear n0_ n1_ n2_ n3_ n4_ n5_ n6_ n7_
                      have hHeld : w33.cell? ⟨gb194, 0, none⟩ = some (.int .i64 a2_0) ∧ w33.cell? ⟨gb194, 1, none⟩ = some (.int .i64 a2_1) ∧ w33.cell? (ad208.add ((x8_3).toNat * 3)) = some (.string ((rd_T89 l0 x8_3).f0)) ∧ w33.cell? ⟨(ad208.add ((x8_3).toNat * 3)).block, (ad208.add ((x8_3).toNat * 3)).off + 1, none⟩ = some (.int .i64 ((rd_T89 l0 x8_3).f1.f0)) ∧ w33.cell? ⟨(ad208.add ((x8_3).toNat * 3)).block, (ad208.add ((x8_3).toNat * 3)).off + 2, none⟩ = some (.int .i64 ((rd_T89 l0 x8_3).f1.f1)) := hS_
                      refine norm_ (a' := ?_) ?_ ?_
                      rotate_left
                      ·simp only [putAll, Act.put, List.setIfInBounds_toArray, List.set_cons_zero, List.set_cons_succ]
                       rfl
                      refine one_ (i := 11) (N := none) #[true, true, true, true, true, true, true, true, true, true, true, true, false] rfl rfl (one_of HT_.out (by kernel_rfl)) (by decide) (fun K hK => ?_)
                      have hs34 : w33.cell? ⟨gb212, 0, none⟩ = some (.int .i64 0) := (blk_cell BK212.out 0).trans rfl
                      have hfs34 := blk_frozen BK212.out 0
                      have hns34_0 := NB194_212.out
                      have hms34_0 := NB212_194.out
                      have hs35 : w33.cell? ⟨gb212, 1, none⟩ = some (.int .i64 0) := (blk_cell BK212.out 1).trans rfl
                      have hfs35 := blk_frozen BK212.out 1
                      have hns35_0 := NB194_212.out
                      have hms35_0 := NB212_194.out
                      refine skip_ (w1 := ?_) (by rfl) rfl ?_ ?_
                      rotate_left
                      ·go_simp
                       rfl
                      refine hK.out _ _ ⟨((cell_far (p := ⟨gb212, _, none⟩) NB194_212.out _).trans (((cell_far (p := ⟨gb212, _, none⟩) NB194_212.out _).trans (hHeld.1)))), ((cell_far (p := ⟨gb212, _, none⟩) NB194_212.out _).trans (((cell_far (p := ⟨gb212, _, none⟩) NB194_212.out _).trans (hHeld.2.1)))), ((cell_far (p := ⟨gb212, _, none⟩) (by first | exact Nat.ne_of_lt (Nat.lt_of_lt_of_le (by have := World.block_lt_of_cell? _ _ hw208_0; first | rwa [add_block] at this | exact this) GW212.out) | (rw [add_block]; exact Nat.ne_of_lt (Nat.lt_of_lt_of_le (by have := World.block_lt_of_cell? _ _ hw208_0; first | rwa [add_block] at this | exact this) GW212.out)) | (show (Addr.add _ _).block ≠ _; rw [add_block]; exact Nat.ne_of_lt (Nat.lt_of_lt_of_le (by have := World.block_lt_of_cell? _ _ hw208_0; first | rwa [add_block] at this | exact this) GW212.out)) | (dsimp only; exact Nat.ne_of_lt (Nat.lt_of_lt_of_le (by have := World.block_lt_of_cell? _ _ hw208_0; first | rwa [add_block] at this | exact this) GW212.out))) _).trans (((cell_far (p := ⟨gb212, _, none⟩) (by first | exact Nat.ne_of_lt (Nat.lt_of_lt_of_le (by have := World.block_lt_of_cell? _ _ hw208_0; first | rwa [add_block] at this | exact this) GW212.out) | (rw [add_block]; exact Nat.ne_of_lt (Nat.lt_of_lt_of_le (by have := World.block_lt_of_cell? _ _ hw208_0; first | rwa [add_block] at this | exact this) GW212.out)) | (show (Addr.add _ _).block ≠ _; rw [add_block]; exact Nat.ne_of_lt (Nat.lt_of_lt_of_le (by have := World.block_lt_of_cell? _ _ hw208_0; first | rwa [add_block] at this | exact this) GW212.out)) | (dsimp only; exact Nat.ne_of_lt (Nat.lt_of_lt_of_le (by have := World.block_lt_of_cell? _ _ hw208_0; first | rwa [add_block] at this | exact this) GW212.out))) _).trans (hHeld.2.2.1)))), ((cell_far (p := ⟨gb212, _, none⟩) (by first | exact Nat.ne_of_lt (Nat.lt_of_lt_of_le (by have := World.block_lt_of_cell? _ _ hw208_1; first | rwa [add_block] at this | exact this) GW212.out) | (rw [add_block]; exact Nat.ne_of_lt (Nat.lt_of_lt_of_le (by have := World.block_lt_of_cell? _ _ hw208_1; first | rwa [add_block] at this | exact this) GW212.out)) | (show (Addr.add _ _).block ≠ _; rw [add_block]; exact Nat.ne_of_lt (Nat.lt_of_lt_of_le (by have := World.block_lt_of_cell? _ _ hw208_1; first | rwa [add_block] at this | exact this) GW212.out)) | (dsimp only; exact Nat.ne_of_lt (Nat.lt_of_lt_of_le (by have := World.block_lt_of_cell? _ _ hw208_1; first | rwa [add_block] at this | exact this) GW212.out))) _).trans (((cell_far (p := ⟨gb212, _, none⟩) (by first | exact Nat.ne_of_lt (Nat.lt_of_lt_of_le (by have := World.block_lt_of_cell? _ _ hw208_1; first | rwa [add_block] at this | exact this) GW212.out) | (rw [add_block]; exact Nat.ne_of_lt (Nat.lt_of_lt_of_le (by have := World.block_lt_of_cell? _ _ hw208_1; first | rwa [add_block] at this | exact this) GW212.out)) | (show (Addr.add _ _).block ≠ _; rw [add_block]; exact Nat.ne_of_lt (Nat.lt_of_lt_of_le (by have := World.block_lt_of_cell? _ _ hw208_1; first | rwa [add_block] at this | exact this) GW212.out)) | (dsimp only; exact Nat.ne_of_lt (Nat.lt_of_lt_of_le (by have := World.block_lt_of_cell? _ _ hw208_1; first | rwa [add_block] at this | exact this) GW212.out))) _).trans (hHeld.2.2.2.1)))), ((cell_far (p := ⟨gb212, _, none⟩) (by first | exact Nat.ne_of_lt (Nat.lt_of_lt_of_le (by have := World.block_lt_of_cell? _ _ hw208_2; first | rwa [add_block] at this | exact this) GW212.out) | (rw [add_block]; exact Nat.ne_of_lt (Nat.lt_of_lt_of_le (by have := World.block_lt_of_cell? _ _ hw208_2; first | rwa [add_block] at this | exact this) GW212.out)) | (show (Addr.add _ _).block ≠ _; rw [add_block]; exact Nat.ne_of_lt (Nat.lt_of_lt_of_le (by have := World.block_lt_of_cell? _ _ hw208_2; first | rwa [add_block] at this | exact this) GW212.out)) | (dsimp only; exact Nat.ne_of_lt (Nat.lt_of_lt_of_le (by have := World.block_lt_of_cell? _ _ hw208_2; first | rwa [add_block] at this | exact this) GW212.out))) _).trans (((cell_far (p := ⟨gb212, _, none⟩) (by first | exact Nat.ne_of_lt (Nat.lt_of_lt_of_le (by have := World.block_lt_of_cell? _ _ hw208_2; first | rwa [add_block] at this | exact this) GW212.out) | (rw [add_block]; exact Nat.ne_of_lt (Nat.lt_of_lt_of_le (by have := World.block_lt_of_cell? _ _ hw208_2; first | rwa [add_block] at this | exact this) GW212.out)) | (show (Addr.add _ _).block ≠ _; rw [add_block]; exact Nat.ne_of_lt (Nat.lt_of_lt_of_le (by have := World.block_lt_of_cell? _ _ hw208_2; first | rwa [add_block] at this | exact this) GW212.out)) | (dsimp only; exact Nat.ne_of_lt (Nat.lt_of_lt_of_le (by have := World.block_lt_of_cell? _ _ hw208_2; first | rwa [add_block] at this | exact this) GW212.out))) _).trans (hHeld.2.2.2.2))))⟩ (fun hHeld => ?_)
                      clear hK K
                      refine zP 12 (N := some 11) (h := ?_)
                      refine done_ (done_of HT_.out (by kernel_rfl)) ?_
                      have hnb36 := NB212_194.out
                      have hnc36 := NB194_212.out
                      have hcz37_0 : w33.cell? ⟨gb212, 0, none⟩ = some (.int .i64 0) := zE BK212
                      have hcz37_1 : w33.cell? ⟨gb212, 1, none⟩ = some (.int .i64 0) := zE BK212
                      have hfz37_0 := blk_frozen BK212.out 0
                      have hfz37_1 := blk_frozen BK212.out 1
                      have hcz38_0 : w33.cell? ⟨gb194, 0, none⟩ = some (.int .i64 a2_0) := zE BK194
                      have hcz38_1 : w33.cell? ⟨gb194, 1, none⟩ = some (.int .i64 a2_1) := zE BK194
                      have hfz38_0 := blk_frozen BK194.out 0
                      have hfz38_1 := blk_frozen BK194.out 1
                      try go_wp2_with (first | ((with_reducible refine gate_callee (f := 104) rfl ?_); refine goesL_ (some 61) rfl rfl Try.func104 (by kernel_rfl) rfl #[.agg #[.int .i64 t209, .int .i64 t210]] rfl zM ?_; (with_reducible refine (spec_l01Zero.calls t209 t210 true _ A24.out).mono ?_); rintro e w39 ⟨rfl, hb⟩; refine ⟨_, rfl, ?_⟩; have n0_ := Aside0.mk (Kd.R_below (by (with_reducible repeat (first | apply Kd.R_alloc | apply Kd.R_drewN | apply Kd.R_drew)); exact (Kd.R_mono (Kd.R_mono (Kd.R_far (p := ⟨gb194, 1, none⟩) (Kd.R_far (p := ⟨gb194, 0, none⟩) (Kd.R_far (p := ⟨gb212, 1, none⟩) (Kd.R_far (p := ⟨gb212, 0, none⟩) (Kd.R_types (Kd.R_types HO_9.out BK212.out (by decide)) BK194.out (by decide)) (fun _ hk => hk.1.2) (.int .i64 t209)) (fun _ hk => hk.1.2) (.int .i64 t210)) (fun _ hk => hk.2) (.int .i64 t209)) (fun _ hk => hk.2) (.int .i64 t210)) (fun _ h_ => h_.1)) (fun _ h_ => h_.1))) hb); have n1_ := Aside0.mk (blk_below (g := gb194) (o := .cells #[.int .i64 t209, .int .i64 t210] 27 (0, 0)) (by (with_reducible repeat (first | refine blk_drewN ?_ _ | refine blk_drew ?_ | refine blk_alloc ?_ _)); refine blk_put (cs := #[.int .i64 t209, .int .i64 a2_1]) ?_ 1 _ rfl; (with_reducible repeat (first | refine blk_drewN ?_ _ | refine blk_drew ?_ | refine blk_alloc ?_ _)); refine blk_put (cs := #[.int .i64 a2_0, .int .i64 a2_1]) ?_ 0 _ rfl; (with_reducible repeat (first | refine blk_drewN ?_ _ | refine blk_drew ?_ | refine blk_alloc ?_ _)); refine blk_far ?_ NB194_212.out _; (with_reducible repeat (first | refine blk_drewN ?_ _ | refine blk_drew ?_ | refine blk_alloc ?_ _)); refine blk_far ?_ NB194_212.out _; exact zK) hb); have n2_ := Aside0.mk (blk_below (g := gb212) (o := .cells #[.int .i64 t209, .int .i64 t210] 27 (0, 0)) (by (with_reducible repeat (first | refine blk_drewN ?_ _ | refine blk_drew ?_ | refine blk_alloc ?_ _)); refine blk_far ?_ NB212_194.out _; (with_reducible repeat (first | refine blk_drewN ?_ _ | refine blk_drew ?_ | refine blk_alloc ?_ _)); refine blk_far ?_ NB212_194.out _; (with_reducible repeat (first | refine blk_drewN ?_ _ | refine blk_drew ?_ | refine blk_alloc ?_ _)); refine blk_put (cs := #[.int .i64 t209, .int .i64 0]) ?_ 1 _ rfl; (with_reducible repeat (first | refine blk_drewN ?_ _ | refine blk_drew ?_ | refine blk_alloc ?_ _)); refine blk_put (cs := #[.int .i64 0, .int .i64 0]) ?_ 0 _ rfl; exact zK) hb); have n3_ := Aside0.mk (below_step zB hb); clear HO_9; clear BK194; clear BK212; clear HB; have HO_9 := n0_; have BK194 := n1_; have BK212 := n2_; have HB := n3_; clear n0_ n1_ n2_ n3_; (try clear hb); (try clear hb2); (try clear hk); (try clear hi); have q40 : ((ji26) : Int) ≤ ((l0.length : Int) : Int) := zD; obtain ⟨i040, hi040, _, hsz40, _⟩ := info_parts info89; have hroom40 : l0.length ≤ c0 := HC0.out; have hC40 : Kd.C k89 _ (some ad208) l0.length l0 := HR0.out; have q040 : (0 : Int) ≤ ((ji26) : Int) := zD; have hcut40 := cut_from (P := Try.prog) 30 89 .i64 Try.underlying30 hi040 3 hsz40 (some ad208) l0.length c0 (ji26) q040 q40; have hr40 := Kd.C_drop (m := ((ji26) : Int).toNat) (c := c0) hC40 (by omega) hroom40; obtain ⟨A40, hA40⟩ : ∃ A1, A1 = (if c0 = ((ji26) : Int).toNat then (some ad208) else ((some ad208) : Option Addr).map (·.add (((ji26) : Int).toNat * 3))) := ⟨_, rfl⟩; obtain ⟨c40, hc40⟩ : ∃ c1, c1 = c0 - ((ji26) : Int).toNat := ⟨_, rfl⟩; have hy40 : y214.length = l0.length - ((ji26) : Int).toNat := (by rw [Ny214.out, List.length_drop] <;> omega); rw [show (l0).drop ((ji26) : Int).toNat = y214 from Ny214.out.symm] at hr40; replace hr40 : Kd.C k89 _ A40 y214.length y214 := (by rw [hA40]; exact hr40); rw [← hy40, ← hA40, ← hc40] at hcut40; have HR217 := Aside0.mk hr40; have HC217 := Aside0.mk (show y214.length ≤ c40 from by rw [hy40, hc40]; exact Nat.sub_le_sub_right hroom40 _); clear hr40 hC40 hroom40 hi040 hsz40 hc40; have KY40 := Aside0.mk hy40; have KA40 := Aside0.mk hA40; clear hy40 hA40; replace q40 := eq_true q40) | ((with_reducible refine gate_builtin (b := .append) (xs := #[.tmp 69, .tmp 72]) rfl ?_); at_builtin; refine Kd.R_append_rows k89 (w0 := w) w.heap.size rfl (.tmp 69) (.tmp 72) 30 89 (.agg #[(.string ⟨#[]⟩), (.int .i64 0), (.int .i64 0)]) 32 rfl Try.underlying30 info89 rfl (by decide) (by omega) v205 y204 y214 _ _ _ (fun _ => True) (fun _ => False) rfl rfl ?aO ?aR (fun _ _ h => h) (fun _ h => h.elim) ?aF ?aB ?aS ?aL ?_; (case aR => repeat (first | exact (Kd.C_below HR217.out HB.out) | (with_reducible refine Kd.C_alloc ?_ _) | (with_reducible refine Kd.C_drewN ?_ _) | (with_reducible refine Kd.C_drew ?_))); (case aB => exact zB); (case aF => exact (fun _ _ => trivial)); (case aO => exact zR); (case aS => exact (below_size zB)); (case aL => have := LMc29.out; omega); intro v219 w41 ho hb hg hat; rw [← Ny218.out] at ho; have n0_ := Aside0.mk (blk_grown (g := gb194) (o := .cells #[.int .i64 t209, .int .i64 t210] 27 (0, 0)) zK hg (Kd.R_ne HO_9.out BK194.out (by decide))); have n1_ := Aside0.mk (blk_grown (g := gb212) (o := .cells #[.int .i64 t209, .int .i64 t210] 27 (0, 0)) zK hg (Kd.R_ne HO_9.out BK212.out (by decide))); have n2_ := Aside0.mk (hb); have n3_ := Aside0.mk (ho); clear BK194; clear BK212; clear HB; clear HO_9; have BK194 := n0_; have BK212 := n1_; have HB := n2_; have HO220 := n3_; clear n0_ n1_ n2_ n3_; clear ho hb hg hat))
                      go_ret2
                      exact ⟨_, by first | rfl | (simp [errW_none, errW_some] <;> rfl) | (simp only [← hji26]; first | rfl | (simp [errW_none, errW_some] <;> rfl)) | (simp [*, errW_none, errW_some] <;> rfl), zR, zB⟩
                     ·rw [if_neg c29] at H
                      exact absurd H (by simp)
                    ·rw [if_neg c28] at H
                     exact absurd H (by simp)
                   ·rw [if_neg c27] at H
                    exact absurd H (by simp)
                  ·replace c25 := Bool.eq_false_iff.mpr c25
                   subst c25
                   have H1 : (if y204.length < 4398046511104 then ((some (y204 ++ [(⟨a1, (⟨t209, t210⟩ : S27)⟩ : S89)] : List (S89))).bind fun y221 => (if 0 ≤ (wrap64 (x8_3 + 1)) then (if (wrap64 (x8_3 + 1)) ≤ (l0.length : Int) then ((some (l0.drop ((wrap64 (x8_3 + 1)) : Int).toNat : List (S89))).bind fun y224 => (if y221.length + y224.length < 4398046511104 then (some ((y221 ++ y224), true)) else (none))) else (none)) else (none))) else (none)) = some (r1, r2) := by rw [if_neg (show ¬ (false = true) by decide)] at H; exact H
                   clear H
                   have H := H1
                   clear H1
                   by_cases c42 : y204.length < 4398046511104
                   ·rw [if_pos c42] at H
                    have LMc42 := Aside0.mk c42
                    clear c42
                    obtain ⟨y221, hy221⟩ : ∃ y_ : List (S89), y_ = (y204 ++ [(⟨a1, (⟨t209, t210⟩ : S27)⟩ : S89)]) := ⟨_, rfl⟩
                    replace H : (if 0 ≤ (wrap64 (x8_3 + 1)) then (if (wrap64 (x8_3 + 1)) ≤ (l0.length : Int) then ((some (l0.drop ((wrap64 (x8_3 + 1)) : Int).toNat : List (S89))).bind fun y224 => (if y221.length + y224.length < 4398046511104 then (some ((y221 ++ y224), true)) else (none))) else (none)) else (none)) = some (r1, r2) := by first | (rw [hy221]; with_reducible exact H) | (have H2_ := (Option.bind_some _ _).symm.trans H; rw [hy221]; with_reducible exact H2_) | (have H2_ := (Option.bind_some _ _).symm.trans H; with_reducible exact H2_) | with_reducible exact H | (rw [hy221]; exact H) | exact H
                    have Ny221 := Aside0.mk hy221
                    clear hy221
                    obtain ⟨ji43, hji43⟩ : ∃ j_ : Int, (wrap64 (x8_3 + 1)) = j_ := ⟨_, rfl⟩
                    try (have ej_ : ji43 = ji26 := hji43.symm.trans hji26; subst ej_)
                    replace H : (if 0 ≤ (ji43) then (if (ji43) ≤ (l0.length : Int) then ((some (l0.drop ((ji43) : Int).toNat : List (S89))).bind fun y224 => (if y221.length + y224.length < 4398046511104 then (some ((y221 ++ y224), true)) else (none))) else (none)) else (none)) = some (r1, r2) := by first | (rw [hji43] at H; exact H) | (simp only [hji43] at H ⊢; exact H)
                    (try rw [hji43] at A22)
                    (try rw [hji43] at A24)
                    have hji43w : (IntKind.i64.wrap (x8_3 + 1)) = ji43 := (i64_w _).trans hji43
                    by_cases c44 : 0 ≤ (ji43)
                    ·rw [if_pos c44] at H
                     have c44b0 := eq_true c44
                     have c44b1 : decide (0 ≤ (ji43)) = true := decide_eq_true c44
                     clear c44
                     by_cases c45 : (ji43) ≤ (l0.length : Int)
                     ·rw [if_pos c45] at H
                      have c45b0 := eq_true c45
                      have c45b1 : decide ((ji43) ≤ (l0.length : Int)) = true := decide_eq_true c45
                      clear c45
                      obtain ⟨y224, hy224⟩ : ∃ y_ : List (S89), y_ = (l0.drop ((ji43) : Int).toNat) := ⟨_, rfl⟩
                      replace H : (if y221.length + y224.length < 4398046511104 then (some ((y221 ++ y224), true)) else (none)) = some (r1, r2) := by first | (rw [hy224]; with_reducible exact H) | (have H2_ := (Option.bind_some _ _).symm.trans H; rw [hy224]; with_reducible exact H2_) | (have H2_ := (Option.bind_some _ _).symm.trans H; with_reducible exact H2_) | with_reducible exact H | (rw [hy224]; exact H) | exact H
                      have Ny224 := Aside0.mk hy224
                      clear hy224
                      by_cases c46 : y221.length + y224.length < 4398046511104
                      ·rw [if_pos c46] at H
                       have LMc46 := Aside0.mk c46
                       clear c46
                       obtain ⟨y228, hy228⟩ : ∃ y_ : List (S89), y_ = (y221 ++ y224) := ⟨_, rfl⟩
                       replace H : (some (y228, true)) = some (r1, r2) := by first | (rw [hy228]; with_reducible exact H) | (have H2_ := (Option.bind_some _ _).symm.trans H; rw [hy228]; with_reducible exact H2_) | (have H2_ := (Option.bind_some _ _).symm.trans H; with_reducible exact H2_) | with_reducible exact H | (rw [hy228]; exact H) | exact H
                       have Ny228 := Aside0.mk hy228
                       clear hy228
                       simp only [Option.some.injEq, Prod.mk.injEq] at H
                       obtain ⟨rfl, rfl⟩ := H
                       try go_wp2
                       have n0_ := Aside0.mk (Kd.R_drew HO_9.out)
                       have n1_ := Aside0.mk (blk_drew BK194.out)
                       have n2_ := Aside0.mk (below_drew1 HB.out)
                       clear HO_9
                       clear BK194
                       clear HB
                       have HO_9 := n0_
                       have BK194 := n1_
                       have HB := n2_
                       clear n0_ n1_ n2_
                       have p208 : 0 ≤ (x8_3 : Int) := zD
                       have q208 : x8_3 < (l0.length : Int) := zD
                       obtain ⟨ad208, e208, hx208_0, hx208_1, hx208_2⟩ := at_T89 HR0.out x8_3 p208 q208
                       have hw208_2 := hx208_2
                       have hw208_1 := hx208_1
                       have hw208_0 := hx208_0
                       cases e208
                       replace hx208_0 := zH HB hx208_0
                       replace hx208_1 := zH HB hx208_1
                       replace hx208_2 := zH HB hx208_2
                       replace p208 := eq_true p208
                       replace q208 := eq_true q208
                       refine start_ (n := 13) (S := fun w' => w'.cell? ⟨gb194, 0, none⟩ = some (.int .i64 a2_0) ∧ w'.cell? ⟨gb194, 1, none⟩ = some (.int .i64 a2_1) ∧ w'.cell? (ad208.add ((x8_3).toNat * 3)) = some (.string ((rd_T89 l0 x8_3).f0)) ∧ w'.cell? ⟨(ad208.add ((x8_3).toNat * 3)).block, (ad208.add ((x8_3).toNat * 3)).off + 1, none⟩ = some (.int .i64 ((rd_T89 l0 x8_3).f1.f0)) ∧ w'.cell? ⟨(ad208.add ((x8_3).toNat * 3)).block, (ad208.add ((x8_3).toNat * 3)).off + 2, none⟩ = some (.int .i64 ((rd_T89 l0 x8_3).f1.f1))) (ds := []) #[false, false, false, false, false, false, false, false, false, false, false, false, false] (by kernel_rfl) rfl rfl ⟨(blk_cell BK194.out 0).trans rfl, (blk_cell BK194.out 1).trans rfl, (zH HB hw208_0 :), (zH HB hw208_1 :), (zH HB hw208_2 :)⟩ (fun hHeld => ?_); refine with_tabW spec_l01Put.tab6 spec_l01Put.bits6 (fun HT_ HW_ => ?_)
                       generalize wc.drew = w47 at HO_9 BK194 HB hx208_0 hx208_1 hx208_2 hHeld ⊢
                       refine zP 0 (N := some 46) (h := ?_)
                       refine zP 1 (N := some 47) (h := ?_)
                       refine zP 2 (N := some 48) (h := ?_)
                       refine zP 3 (N := some 49) (h := ?_)
                       refine zT 4 hHeld (N := some 50) (h := ?_)
                       refine zT 5 hHeld (N := some 51) (h := ?_)
                       refine join_ (σ := Nat) 2 #[true, true, true, true, true, true, true, true, true, true, true, false, false] (fun s_ => [(52, .tuple #[.agg #[.int .i64 t209, .int .i64 t210], .bool true]), (10, .pointer (some ⟨s_, 0, none⟩)), (45, .tuple #[.agg #[.int .i64 t209, .int .i64 t210], .bool true]), (53, .agg #[.int .i64 t209, .int .i64 t210]), (54, .bool true)]) (fun s_ w' => (w'.cell? ⟨gb194, 0, none⟩ = some (.int .i64 a2_0) ∧ w'.cell? ⟨gb194, 1, none⟩ = some (.int .i64 a2_1) ∧ w'.cell? (ad208.add ((x8_3).toNat * 3)) = some (.string ((rd_T89 l0 x8_3).f0)) ∧ w'.cell? ⟨(ad208.add ((x8_3).toNat * 3)).block, (ad208.add ((x8_3).toNat * 3)).off + 1, none⟩ = some (.int .i64 ((rd_T89 l0 x8_3).f1.f0)) ∧ w'.cell? ⟨(ad208.add ((x8_3).toNat * 3)).block, (ad208.add ((x8_3).toNat * 3)).off + 2, none⟩ = some (.int .i64 ((rd_T89 l0 x8_3).f1.f1))) ∧ (Kd.R k89 89 w' w.heap.size (fun _ => True) v205 y204) ∧ (w'.heap[gb194]? = some (.cells #[.int .i64 a2_0, .int .i64 a2_1] 27 (0, 0))) ∧ (w'.heap[s_]? = some (.cells #[.int .i64 0, .int .i64 0] 27 (0, 0))) ∧ (w.heap.size ≤ s_) ∧ (w.heap.size ≤ s_) ∧ (gb194 ≠ s_) ∧ (s_ ≠ gb194) ∧ (Below w.heap.size w w')) ?_ ?_
                       rotate_left
                       ·intro hCont
                        refine two_ (i := 6) (j := 10) (Ni := some 52) (Nj := some 10) #[true, true, true, true, true, true, true, false, false, false, false, false, false] #[true, true, true, true, true, true, false, false, false, false, true, false, false] rfl rfl rfl rfl (two_of HT_.out (by kernel_rfl)) (by decide) (by decide) (fun K hK => ?_) (fun K hK => ?_)
                        ·skip
                         refine goes_ Try.func109 (by kernel_rfl) rfl #[.agg #[.int .i64 ((rd_T89 l0 x8_3).f1.f0), .int .i64 ((rd_T89 l0 x8_3).f1.f1)], .agg #[.int .i64 a2_0, .int .i64 a2_1]] (by rfl) rfl rfl zM ?_
                         with_reducible refine (spec_l01Plus.calls kj12 ((rd_T89 l0 x8_3).f1.f0) ((rd_T89 l0 x8_3).f1.f1) a2_0 a2_1 t209 t210 true _ A22.out).mono ?_
                         rintro e w48 ⟨rfl, hb⟩
                         refine ⟨_, rfl, ?_⟩
                         have n0_ := Aside0.mk (Kd.R_below (by (with_reducible repeat (first | apply Kd.R_alloc | apply Kd.R_drewN | apply Kd.R_drew)); exact HO_9.out) hb)
                         have n1_ := Aside0.mk (blk_below (g := gb194) (o := .cells #[.int .i64 a2_0, .int .i64 a2_1] 27 (0, 0)) zK hb)
                         have n2_ := Aside0.mk (below_step zB hb)
                         clear HO_9
                         clear BK194
                         clear HB
                         have HO_9 := n0_
                         have BK194 := n1_
                         have HB := n2_
                         clear n0_ n1_ n2_
                         (try clear hb)
                         (try clear hb2)
                         (try clear hk)
                         (try clear hi)
                         refine hK.out _ _ ⟨(blk_cell BK194.out 0).trans rfl, (blk_cell BK194.out 1).trans rfl, (zH HB hw208_0 :), (zH HB hw208_1 :), (zH HB hw208_2 :)⟩ (fun hHeld => ?_)
                         clear hK K
                         refine norm_ (a' := ?_) ?_ ?_
                         rotate_left
                         ·show Act.put _ (some 52) _ = _
                          simp only [Act.put, List.setIfInBounds_toArray, List.set_cons_zero, List.set_cons_succ, i64_w, i32_w]
                          rfl
                         refine zP 7 (N := some 45) (h := ?_)
                         refine zP 8 (N := some 53) (h := ?_)
                         refine zP 9 (N := some 54) (h := ?_)
                         refine one_ (i := 10) (N := some 10) #[true, true, true, true, true, true, true, true, true, true, true, false, false] rfl rfl (one_of HT_.out (by kernel_rfl)) (by decide) (fun K hK => ?_)
                         refine box_step ?hg (N := 10) ?hd (cs := #[.int .i64 0, .int .i64 0]) (t := 27) ?hr ?_; (case hd => rfl); (case hg => rfl); (case hr => first | (go_simp; done) | (go_simp; rfl))
                         intro gb212 hg w49 hbox hb
                         have n0_ := Aside0.mk (Kd.R_below (by (with_reducible repeat (first | apply Kd.R_alloc | apply Kd.R_drewN | apply Kd.R_drew)); exact HO_9.out) hb)
                         have n1_ := Aside0.mk (blk_below (g := gb194) (o := .cells #[.int .i64 a2_0, .int .i64 a2_1] 27 (0, 0)) zK hb)
                         have n2_ := Aside0.mk (below_step zB hb)
                         have n3_ := Aside0.mk (hbox)
                         have n4_ := Aside0.mk (zG : w.heap.size ≤ gb212)
                         have n5_ := Aside0.mk (zG : w.heap.size ≤ gb212)
                         have n6_ := Aside0.mk ((by rw [hg]; exact Nat.ne_of_lt (blk_lt (g := gb194) (o := .cells #[.int .i64 a2_0, .int .i64 a2_1] 27 (0, 0)) zK) : gb194 ≠ gb212))
                         have n7_ := Aside0.mk ((by rw [hg]; exact Nat.ne_of_gt (blk_lt (g := gb194) (o := .cells #[.int .i64 a2_0, .int .i64 a2_1] 27 (0, 0)) zK) : gb212 ≠ gb194))
                         clear HO_9
                         clear BK194
                         clear HB
                         have HO_9 := n0_
                         have BK194 := n1_
                         have HB := n2_
                         have BK212 := n3_
                         have GW212 := n4_
                         have GE212 := n5_
                         have NB194_212 := n6_
                         have NB212_194 := n7_
                         clear n0_ n1_ n2_ n3_ n4_ n5_ n6_ n7_
                         clear hb hbox hg
                         refine hK.out _ _ ⟨(blk_cell BK194.out 0).trans rfl, (blk_cell BK194.out 1).trans rfl, (zH HB hw208_0 :), (zH HB hw208_1 :), (zH HB hw208_2 :)⟩ (fun hHeld => ?_)
                         clear hK K
                         refine norm_ (a' := ?_) ?_ ?_
                         rotate_left
                         ·show Act.put _ (some 10) _ = _
                          simp only [Act.put, List.setIfInBounds_toArray, List.set_cons_zero, List.set_cons_succ, i64_w, i32_w]
                          rfl
                         exact norm_ (by simp only [putAll, Act.put, List.setIfInBounds_toArray, List.set_cons_zero, List.set_cons_succ]) (hCont (gb212) _ ⟨hHeld, zR, zK, zK, GW212.out, GE212.out, NB194_212.out, NB212_194.out, zB⟩)
                        ·skip
                         refine box_step ?hg (N := 10) ?hd (cs := #[.int .i64 0, .int .i64 0]) (t := 27) ?hr ?_; (case hd => rfl); (case hg => rfl); (case hr => first | (go_simp; done) | (go_simp; rfl))
                         intro gb212 hg w48 hbox hb
                         have n0_ := Aside0.mk (Kd.R_below (by (with_reducible repeat (first | apply Kd.R_alloc | apply Kd.R_drewN | apply Kd.R_drew)); exact HO_9.out) hb)
                         have n1_ := Aside0.mk (blk_below (g := gb194) (o := .cells #[.int .i64 a2_0, .int .i64 a2_1] 27 (0, 0)) zK hb)
                         have n2_ := Aside0.mk (below_step zB hb)
                         have n3_ := Aside0.mk (hbox)
                         have n4_ := Aside0.mk (zG : w.heap.size ≤ gb212)
                         have n5_ := Aside0.mk (zG : w.heap.size ≤ gb212)
                         have n6_ := Aside0.mk ((by rw [hg]; exact Nat.ne_of_lt (blk_lt (g := gb194) (o := .cells #[.int .i64 a2_0, .int .i64 a2_1] 27 (0, 0)) zK) : gb194 ≠ gb212))
                         have n7_ := Aside0.mk ((by rw [hg]; exact Nat.ne_of_gt (blk_lt (g := gb194) (o := .cells #[.int .i64 a2_0, .int .i64 a2_1] 27 (0, 0)) zK) : gb212 ≠ gb194))
                         clear HO_9
                         clear BK194
                         clear HB
                         have HO_9 := n0_
                         have BK194 := n1_
                         have HB := n2_
                         have BK212 := n3_
                         have GW212 := n4_
                         have GE212 := n5_
                         have NB194_212 := n6_
                         have NB212_194 := n7_
                         clear n0_ n1_ n2_ n3_ n4_ n5_ n6_ n7_
                         clear hb hbox hg
                         refine hK.out _ _ ⟨(blk_cell BK194.out 0).trans rfl, (blk_cell BK194.out 1).trans rfl, (zH HB hw208_0 :), (zH HB hw208_1 :), (zH HB hw208_2 :)⟩ (fun hHeld => ?_)
                         clear hK K
                         refine norm_ (a' := ?_) ?_ ?_
                         rotate_left
                         ·show Act.put _ (some 10) _ = _
                          simp only [Act.put, List.setIfInBounds_toArray, List.set_cons_zero, List.set_cons_succ, i64_w, i32_w]
                          rfl
                         refine one_ (i := 6) (N := some 52) #[true, true, true, true, true, true, true, false, false, false, true, false, false] rfl rfl (one_of HT_.out (by kernel_rfl)) (by decide) (fun K hK => ?_)
                         refine goes_ Try.func109 (by kernel_rfl) rfl #[.agg #[.int .i64 ((rd_T89 l0 x8_3).f1.f0), .int .i64 ((rd_T89 l0 x8_3).f1.f1)], .agg #[.int .i64 a2_0, .int .i64 a2_1]] (by rfl) rfl rfl zM ?_
                         with_reducible refine (spec_l01Plus.calls kj12 ((rd_T89 l0 x8_3).f1.f0) ((rd_T89 l0 x8_3).f1.f1) a2_0 a2_1 t209 t210 true _ A22.out).mono ?_
                         rintro e w49 ⟨rfl, hb⟩
                         refine ⟨_, rfl, ?_⟩
                         have n0_ := Aside0.mk (Kd.R_below (by (with_reducible repeat (first | apply Kd.R_alloc | apply Kd.R_drewN | apply Kd.R_drew)); exact HO_9.out) hb)
                         have n1_ := Aside0.mk (blk_below (g := gb194) (o := .cells #[.int .i64 a2_0, .int .i64 a2_1] 27 (0, 0)) zK hb)
                         have n2_ := Aside0.mk (blk_below (g := gb212) (o := .cells #[.int .i64 0, .int .i64 0] 27 (0, 0)) zK hb)
                         have n3_ := Aside0.mk (below_step zB hb)
                         clear HO_9
                         clear BK194
                         clear BK212
                         clear HB
                         have HO_9 := n0_
                         have BK194 := n1_
                         have BK212 := n2_
                         have HB := n3_
                         clear n0_ n1_ n2_ n3_
                         (try clear hb)
                         (try clear hb2)
                         (try clear hk)
                         (try clear hi)
                         refine hK.out _ _ ⟨(blk_cell BK194.out 0).trans rfl, (blk_cell BK194.out 1).trans rfl, (zH HB hw208_0 :), (zH HB hw208_1 :), (zH HB hw208_2 :)⟩ (fun hHeld => ?_)
                         clear hK K
                         refine norm_ (a' := ?_) ?_ ?_
                         rotate_left
                         ·show Act.put _ (some 52) _ = _
                          simp only [Act.put, List.setIfInBounds_toArray, List.set_cons_zero, List.set_cons_succ, i64_w, i32_w]
                          rfl
                         refine zP 7 (N := some 45) (h := ?_)
                         refine zP 8 (N := some 53) (h := ?_)
                         refine zP 9 (N := some 54) (h := ?_)
                         exact norm_ (by simp only [putAll, Act.put, List.setIfInBounds_toArray, List.set_cons_zero, List.set_cons_succ]) (hCont (gb212) _ ⟨hHeld, zR, zK, zK, GW212.out, GE212.out, NB194_212.out, NB212_194.out, zB⟩)
                       rintro gb212 w50 ⟨hS_, h0_, h1_, h2_, h3_, h4_, h5_, h6_, h7_⟩
                       have n0_ : Aside0 (Kd.R k89 89 w50 w.heap.size (fun _ => True) v205 y204) := ⟨h0_⟩
                       have n1_ : Aside0 (w50.heap[gb194]? = some (.cells #[.int .i64 a2_0, .int .i64 a2_1] 27 (0, 0))) := ⟨h1_⟩
                       have n2_ : Aside0 (w50.heap[gb212]? = some (.cells #[.int .i64 0, .int .i64 0] 27 (0, 0))) := ⟨h2_⟩
                       have n3_ : Aside0 (w.heap.size ≤ gb212) := ⟨h3_⟩
                       have n4_ : Aside0 (w.heap.size ≤ gb212) := ⟨h4_⟩
                       have n5_ : Aside0 (gb194 ≠ gb212) := ⟨h5_⟩
                       have n6_ : Aside0 (gb212 ≠ gb194) := ⟨h6_⟩
                       have n7_ : Aside0 (Below w.heap.size w w50) := ⟨h7_⟩
                       clear HO_9
                       clear BK194
                       clear HB
                       clear h0_ h1_ h2_ h3_ h4_ h5_ h6_ h7_
                       have HO_9 := n0_
                       have BK194 := n1_
                       have BK212 := n2_
                       have GW212 := n3_
                       have GE212 := n4_
                       have NB194_212 := n5_
                       have NB212_194 := n6_
                       have HB := n7_
                       clear n0_ n1_ n2_ n3_ n4_ n5_ n6_ n7_
                       have hHeld : w50.cell? ⟨gb194, 0, none⟩ = some (.int .i64 a2_0) ∧ w50.cell? ⟨gb194, 1, none⟩ = some (.int .i64 a2_1) ∧ w50.cell? (ad208.add ((x8_3).toNat * 3)) = some (.string ((rd_T89 l0 x8_3).f0)) ∧ w50.cell? ⟨(ad208.add ((x8_3).toNat * 3)).block, (ad208.add ((x8_3).toNat * 3)).off + 1, none⟩ = some (.int .i64 ((rd_T89 l0 x8_3).f1.f0)) ∧ w50.cell? ⟨(ad208.add ((x8_3).toNat * 3)).block, (ad208.add ((x8_3).toNat * 3)).off + 2, none⟩ = some (.int .i64 ((rd_T89 l0 x8_3).f1.f1)) := hS_
                       refine norm_ (a' := ?_) ?_ ?_
                       rotate_left
                       ·simp only [putAll, Act.put, List.setIfInBounds_toArray, List.set_cons_zero, List.set_cons_succ]
                        rfl
                       refine one_ (i := 11) (N := none) #[true, true, true, true, true, true, true, true, true, true, true, true, false] rfl rfl (one_of HT_.out (by kernel_rfl)) (by decide) (fun K hK => ?_)
                       have hs51 : w50.cell? ⟨gb212, 0, none⟩ = some (.int .i64 0) := (blk_cell BK212.out 0).trans rfl
                       have hfs51 := blk_frozen BK212.out 0
                       have hns51_0 := NB194_212.out
                       have hms51_0 := NB212_194.out
                       have hs52 : w50.cell? ⟨gb212, 1, none⟩ = some (.int .i64 0) := (blk_cell BK212.out 1).trans rfl
                       have hfs52 := blk_frozen BK212.out 1
                       have hns52_0 := NB194_212.out
                       have hms52_0 := NB212_194.out
                       refine skip_ (w1 := ?_) (by rfl) rfl ?_ ?_
                       rotate_left
                       ·go_simp
                        rfl
                       refine hK.out _ _ ⟨((cell_far (p := ⟨gb212, _, none⟩) NB194_212.out _).trans (((cell_far (p := ⟨gb212, _, none⟩) NB194_212.out _).trans (hHeld.1)))), ((cell_far (p := ⟨gb212, _, none⟩) NB194_212.out _).trans (((cell_far (p := ⟨gb212, _, none⟩) NB194_212.out _).trans (hHeld.2.1)))), ((cell_far (p := ⟨gb212, _, none⟩) (by first | exact Nat.ne_of_lt (Nat.lt_of_lt_of_le (by have := World.block_lt_of_cell? _ _ hw208_0; first | rwa [add_block] at this | exact this) GW212.out) | (rw [add_block]; exact Nat.ne_of_lt (Nat.lt_of_lt_of_le (by have := World.block_lt_of_cell? _ _ hw208_0; first | rwa [add_block] at this | exact this) GW212.out)) | (show (Addr.add _ _).block ≠ _; rw [add_block]; exact Nat.ne_of_lt (Nat.lt_of_lt_of_le (by have := World.block_lt_of_cell? _ _ hw208_0; first | rwa [add_block] at this | exact this) GW212.out)) | (dsimp only; exact Nat.ne_of_lt (Nat.lt_of_lt_of_le (by have := World.block_lt_of_cell? _ _ hw208_0; first | rwa [add_block] at this | exact this) GW212.out))) _).trans (((cell_far (p := ⟨gb212, _, none⟩) (by first | exact Nat.ne_of_lt (Nat.lt_of_lt_of_le (by have := World.block_lt_of_cell? _ _ hw208_0; first | rwa [add_block] at this | exact this) GW212.out) | (rw [add_block]; exact Nat.ne_of_lt (Nat.lt_of_lt_of_le (by have := World.block_lt_of_cell? _ _ hw208_0; first | rwa [add_block] at this | exact this) GW212.out)) | (show (Addr.add _ _).block ≠ _; rw [add_block]; exact Nat.ne_of_lt (Nat.lt_of_lt_of_le (by have := World.block_lt_of_cell? _ _ hw208_0; first | rwa [add_block] at this | exact this) GW212.out)) | (dsimp only; exact Nat.ne_of_lt (Nat.lt_of_lt_of_le (by have := World.block_lt_of_cell? _ _ hw208_0; first | rwa [add_block] at this | exact this) GW212.out))) _).trans (hHeld.2.2.1)))), ((cell_far (p := ⟨gb212, _, none⟩) (by first | exact Nat.ne_of_lt (Nat.lt_of_lt_of_le (by have := World.block_lt_of_cell? _ _ hw208_1; first | rwa [add_block] at this | exact this) GW212.out) | (rw [add_block]; exact Nat.ne_of_lt (Nat.lt_of_lt_of_le (by have := World.block_lt_of_cell? _ _ hw208_1; first | rwa [add_block] at this | exact this) GW212.out)) | (show (Addr.add _ _).block ≠ _; rw [add_block]; exact Nat.ne_of_lt (Nat.lt_of_lt_of_le (by have := World.block_lt_of_cell? _ _ hw208_1; first | rwa [add_block] at this | exact this) GW212.out)) | (dsimp only; exact Nat.ne_of_lt (Nat.lt_of_lt_of_le (by have := World.block_lt_of_cell? _ _ hw208_1; first | rwa [add_block] at this | exact this) GW212.out))) _).trans (((cell_far (p := ⟨gb212, _, none⟩) (by first | exact Nat.ne_of_lt (Nat.lt_of_lt_of_le (by have := World.block_lt_of_cell? _ _ hw208_1; first | rwa [add_block] at this | exact this) GW212.out) | (rw [add_block]; exact Nat.ne_of_lt (Nat.lt_of_lt_of_le (by have := World.block_lt_of_cell? _ _ hw208_1; first | rwa [add_block] at this | exact this) GW212.out)) | (show (Addr.add _ _).block ≠ _; rw [add_block]; exact Nat.ne_of_lt (Nat.lt_of_lt_of_le (by have := World.block_lt_of_cell? _ _ hw208_1; first | rwa [add_block] at this | exact this) GW212.out)) | (dsimp only; exact Nat.ne_of_lt (Nat.lt_of_lt_of_le (by have := World.block_lt_of_cell? _ _ hw208_1; first | rwa [add_block] at this | exact this) GW212.out))) _).trans (hHeld.2.2.2.1)))), ((cell_far (p := ⟨gb212, _, none⟩) (by first | exact Nat.ne_of_lt (Nat.lt_of_lt_of_le (by have := World.block_lt_of_cell? _ _ hw208_2; first | rwa [add_block] at this | exact this) GW212.out) | (rw [add_block]; exact Nat.ne_of_lt (Nat.lt_of_lt_of_le (by have := World.block_lt_of_cell? _ _ hw208_2; first | rwa [add_block] at this | exact this) GW212.out)) | (show (Addr.add _ _).block ≠ _; rw [add_block]; exact Nat.ne_of_lt (Nat.lt_of_lt_of_le (by have := World.block_lt_of_cell? _ _ hw208_2; first | rwa [add_block] at this | exact this) GW212.out)) | (dsimp only; exact Nat.ne_of_lt (Nat.lt_of_lt_of_le (by have := World.block_lt_of_cell? _ _ hw208_2; first | rwa [add_block] at this | exact this) GW212.out))) _).trans (((cell_far (p := ⟨gb212, _, none⟩) (by first | exact Nat.ne_of_lt (Nat.lt_of_lt_of_le (by have := World.block_lt_of_cell? _ _ hw208_2; first | rwa [add_block] at this | exact this) GW212.out) | (rw [add_block]; exact Nat.ne_of_lt (Nat.lt_of_lt_of_le (by have := World.block_lt_of_cell? _ _ hw208_2; first | rwa [add_block] at this | exact this) GW212.out)) | (show (Addr.add _ _).block ≠ _; rw [add_block]; exact Nat.ne_of_lt (Nat.lt_of_lt_of_le (by have := World.block_lt_of_cell? _ _ hw208_2; first | rwa [add_block] at this | exact this) GW212.out)) | (dsimp only; exact Nat.ne_of_lt (Nat.lt_of_lt_of_le (by have := World.block_lt_of_cell? _ _ hw208_2; first | rwa [add_block] at this | exact this) GW212.out))) _).trans (hHeld.2.2.2.2))))⟩ (fun hHeld => ?_)
                       clear hK K
                       refine zP 12 (N := some 11) (h := ?_)
                       refine done_ (done_of HT_.out (by kernel_rfl)) ?_
                       have hnb53 := NB212_194.out
                       have hnc53 := NB194_212.out
                       have hcz54_0 : w50.cell? ⟨gb212, 0, none⟩ = some (.int .i64 0) := zE BK212
                       have hcz54_1 : w50.cell? ⟨gb212, 1, none⟩ = some (.int .i64 0) := zE BK212
                       have hfz54_0 := blk_frozen BK212.out 0
                       have hfz54_1 := blk_frozen BK212.out 1
                       have hcz55_0 : w50.cell? ⟨gb194, 0, none⟩ = some (.int .i64 a2_0) := zE BK194
                       have hcz55_1 : w50.cell? ⟨gb194, 1, none⟩ = some (.int .i64 a2_1) := zE BK194
                       have hfz55_0 := blk_frozen BK194.out 0
                       have hfz55_1 := blk_frozen BK194.out 1
                       try go_wp2_with (first | ((with_reducible refine gate_callee (f := 104) rfl ?_); refine goesL_ (some 61) rfl rfl Try.func104 (by kernel_rfl) rfl #[.agg #[.int .i64 t209, .int .i64 t210]] rfl zM ?_; (with_reducible refine (spec_l01Zero.calls t209 t210 false _ A24.out).mono ?_); rintro e w56 ⟨rfl, hb⟩; refine ⟨_, rfl, ?_⟩; have n0_ := Aside0.mk (Kd.R_below (by (with_reducible repeat (first | apply Kd.R_alloc | apply Kd.R_drewN | apply Kd.R_drew)); exact (Kd.R_mono (Kd.R_mono (Kd.R_far (p := ⟨gb194, 1, none⟩) (Kd.R_far (p := ⟨gb194, 0, none⟩) (Kd.R_far (p := ⟨gb212, 1, none⟩) (Kd.R_far (p := ⟨gb212, 0, none⟩) (Kd.R_types (Kd.R_types HO_9.out BK212.out (by decide)) BK194.out (by decide)) (fun _ hk => hk.1.2) (.int .i64 t209)) (fun _ hk => hk.1.2) (.int .i64 t210)) (fun _ hk => hk.2) (.int .i64 t209)) (fun _ hk => hk.2) (.int .i64 t210)) (fun _ h_ => h_.1)) (fun _ h_ => h_.1))) hb); have n1_ := Aside0.mk (blk_below (g := gb194) (o := .cells #[.int .i64 t209, .int .i64 t210] 27 (0, 0)) (by (with_reducible repeat (first | refine blk_drewN ?_ _ | refine blk_drew ?_ | refine blk_alloc ?_ _)); refine blk_put (cs := #[.int .i64 t209, .int .i64 a2_1]) ?_ 1 _ rfl; (with_reducible repeat (first | refine blk_drewN ?_ _ | refine blk_drew ?_ | refine blk_alloc ?_ _)); refine blk_put (cs := #[.int .i64 a2_0, .int .i64 a2_1]) ?_ 0 _ rfl; (with_reducible repeat (first | refine blk_drewN ?_ _ | refine blk_drew ?_ | refine blk_alloc ?_ _)); refine blk_far ?_ NB194_212.out _; (with_reducible repeat (first | refine blk_drewN ?_ _ | refine blk_drew ?_ | refine blk_alloc ?_ _)); refine blk_far ?_ NB194_212.out _; exact zK) hb); have n2_ := Aside0.mk (blk_below (g := gb212) (o := .cells #[.int .i64 t209, .int .i64 t210] 27 (0, 0)) (by (with_reducible repeat (first | refine blk_drewN ?_ _ | refine blk_drew ?_ | refine blk_alloc ?_ _)); refine blk_far ?_ NB212_194.out _; (with_reducible repeat (first | refine blk_drewN ?_ _ | refine blk_drew ?_ | refine blk_alloc ?_ _)); refine blk_far ?_ NB212_194.out _; (with_reducible repeat (first | refine blk_drewN ?_ _ | refine blk_drew ?_ | refine blk_alloc ?_ _)); refine blk_put (cs := #[.int .i64 t209, .int .i64 0]) ?_ 1 _ rfl; (with_reducible repeat (first | refine blk_drewN ?_ _ | refine blk_drew ?_ | refine blk_alloc ?_ _)); refine blk_put (cs := #[.int .i64 0, .int .i64 0]) ?_ 0 _ rfl; exact zK) hb); have n3_ := Aside0.mk (below_step zB hb); clear HO_9; clear BK194; clear BK212; clear HB; have HO_9 := n0_; have BK194 := n1_; have BK212 := n2_; have HB := n3_; clear n0_ n1_ n2_ n3_; (try clear hb); (try clear hb2); (try clear hk); (try clear hi); have hcz57_0 : w56.cell? ⟨gb194, 0, none⟩ = some (.int .i64 t209) := zE BK194; have hcz57_1 : w56.cell? ⟨gb194, 1, none⟩ = some (.int .i64 t210) := zE BK194; have hfz57_0 := blk_frozen BK194.out 0; have hfz57_1 := blk_frozen BK194.out 1) | ((with_reducible refine gate_builtin (b := .append) (xs := #[.tmp 63, .tmp 67]) rfl ?_); at_builtin; refine Kd.R_append k89 (w0 := w) w.heap.size rfl (.tmp 63) (.tmp 67) 30 89 (.agg #[(.string ⟨#[]⟩), (.int .i64 0), (.int .i64 0)]) 32 rfl Try.underlying30 info89 rfl (by decide) (by omega) v205 y204 (⟨a1, (⟨t209, t210⟩ : S27)⟩ : S89) [.string a1, .int .i64 t209, .int .i64 t210] (fun _ => True) (fun _ => False) rfl rfl ?aP (fun _ hk => hk.elim) ?aF ?aO ?aB ?aS ?aL ?_; (case aP => exact k89_mkM _ _ _ (⟨a1, (⟨t209, t210⟩ : S27)⟩ : S89)); (case aB => exact zB); (case aF => exact (fun _ _ => trivial)); (case aO => exact zR); (case aS => exact (below_size zB)); (case aL => have := LMc42.out; omega); intro v222 w58 ho hb hg hat; rw [← Ny221.out] at ho; have n0_ := Aside0.mk (blk_grown (g := gb194) (o := .cells #[.int .i64 t209, .int .i64 t210] 27 (0, 0)) zK hg (Kd.R_ne HO_9.out BK194.out (by decide))); have n1_ := Aside0.mk (blk_grown (g := gb212) (o := .cells #[.int .i64 t209, .int .i64 t210] 27 (0, 0)) zK hg (Kd.R_ne HO_9.out BK212.out (by decide))); have n2_ := Aside0.mk (hb); have n3_ := Aside0.mk (ho); clear BK194; clear BK212; clear HB; clear HO_9; have BK194 := n0_; have BK212 := n1_; have HB := n2_; have HO223 := n3_; clear n0_ n1_ n2_ n3_; clear ho hb hg hat; have q59 : ((ji43) : Int) ≤ ((l0.length : Int) : Int) := zD; obtain ⟨i059, hi059, _, hsz59, _⟩ := info_parts info89; have hroom59 : l0.length ≤ c0 := HC0.out; have hC59 : Kd.C k89 _ (some ad208) l0.length l0 := HR0.out; have q059 : (0 : Int) ≤ ((ji43) : Int) := zD; have hcut59 := cut_from (P := Try.prog) 30 89 .i64 Try.underlying30 hi059 3 hsz59 (some ad208) l0.length c0 (ji43) q059 q59; have hr59 := Kd.C_drop (m := ((ji43) : Int).toNat) (c := c0) hC59 (by omega) hroom59; obtain ⟨A59, hA59⟩ : ∃ A1, A1 = (if c0 = ((ji43) : Int).toNat then (some ad208) else ((some ad208) : Option Addr).map (·.add (((ji43) : Int).toNat * 3))) := ⟨_, rfl⟩; obtain ⟨c59, hc59⟩ : ∃ c1, c1 = c0 - ((ji43) : Int).toNat := ⟨_, rfl⟩; have hy59 : y224.length = l0.length - ((ji43) : Int).toNat := (by rw [Ny224.out, List.length_drop] <;> omega); rw [show (l0).drop ((ji43) : Int).toNat = y224 from Ny224.out.symm] at hr59; replace hr59 : Kd.C k89 _ A59 y224.length y224 := (by rw [hA59]; exact hr59); rw [← hy59, ← hA59, ← hc59] at hcut59; have HR227 := Aside0.mk hr59; have HC227 := Aside0.mk (show y224.length ≤ c59 from by rw [hy59, hc59]; exact Nat.sub_le_sub_right hroom59 _); clear hr59 hC59 hroom59 hi059 hsz59 hc59; have KY59 := Aside0.mk hy59; have KA59 := Aside0.mk hA59; clear hy59 hA59; replace q59 := eq_true q59) | ((with_reducible refine gate_builtin (b := .append) (xs := #[.tmp 69, .tmp 72]) rfl ?_); at_builtin; refine Kd.R_append_rows k89 (w0 := w) w.heap.size rfl (.tmp 69) (.tmp 72) 30 89 (.agg #[(.string ⟨#[]⟩), (.int .i64 0), (.int .i64 0)]) 32 rfl Try.underlying30 info89 rfl (by decide) (by omega) v222 y221 y224 _ _ _ (fun _ => True) (fun _ => False) rfl rfl ?aO ?aR (fun _ _ h => h) (fun _ h => h.elim) ?aF ?aB ?aS ?aL ?_; (case aR => repeat (first | exact (Kd.C_below HR227.out HB.out) | (with_reducible refine Kd.C_alloc ?_ _) | (with_reducible refine Kd.C_drewN ?_ _) | (with_reducible refine Kd.C_drew ?_))); (case aB => exact zB); (case aF => exact (fun _ _ => trivial)); (case aO => exact zR); (case aS => exact (below_size zB)); (case aL => have := LMc46.out; omega); intro v229 w60 ho hb hg hat; rw [← Ny228.out] at ho; have n0_ := Aside0.mk (blk_grown (g := gb194) (o := .cells #[.int .i64 t209, .int .i64 t210] 27 (0, 0)) zK hg (Kd.R_ne HO223.out BK194.out (by decide))); have n1_ := Aside0.mk (blk_grown (g := gb212) (o := .cells #[.int .i64 t209, .int .i64 t210] 27 (0, 0)) zK hg (Kd.R_ne HO223.out BK212.out (by decide))); have n2_ := Aside0.mk (hb); have n3_ := Aside0.mk (ho); clear BK194; clear BK212; clear HB; clear HO223; have BK194 := n0_; have BK212 := n1_; have HB := n2_; have HO230 := n3_; clear n0_ n1_ n2_ n3_; clear ho hb hg hat))
                       go_ret2
                       exact ⟨_, by first | rfl | (simp [errW_none, errW_some] <;> rfl) | (simp only [← hji43]; first | rfl | (simp [errW_none, errW_some] <;> rfl)) | (simp [*, errW_none, errW_some] <;> rfl), zR, zB⟩
                      ·rw [if_neg c46] at H
                       exact absurd H (by simp)
                     ·rw [if_neg c45] at H
                      exact absurd H (by simp)
                    ·rw [if_neg c44] at H
                     exact absurd H (by simp)
                   ·rw [if_neg c42] at H
                    exact absurd H (by simp)
                 ·replace c23 := Bool.eq_false_iff.mpr c23
                  subst c23
                  have H1 : (some (([] : List (S89)), false)) = some (r1, r2) := by rw [if_neg (show ¬ (false = true) by decide)] at H; exact H
                  clear H
                  have H := H1
                  clear H1
                  simp only [Option.some.injEq, Prod.mk.injEq] at H
                  obtain ⟨rfl, rfl⟩ := H
                  try go_wp2
                  have n0_ := Aside0.mk (Kd.R_drew HO_9.out)
                  have n1_ := Aside0.mk (blk_drew BK194.out)
                  have n2_ := Aside0.mk (below_drew1 HB.out)
                  clear HO_9
                  clear BK194
                  clear HB
                  have HO_9 := n0_
                  have BK194 := n1_
                  have HB := n2_
                  clear n0_ n1_ n2_
                  have p208 : 0 ≤ (x8_3 : Int) := zD
                  have q208 : x8_3 < (l0.length : Int) := zD
                  obtain ⟨ad208, e208, hx208_0, hx208_1, hx208_2⟩ := at_T89 HR0.out x8_3 p208 q208
                  have hw208_2 := hx208_2
                  have hw208_1 := hx208_1
                  have hw208_0 := hx208_0
                  cases e208
                  replace hx208_0 := zH HB hx208_0
                  replace hx208_1 := zH HB hx208_1
                  replace hx208_2 := zH HB hx208_2
                  replace p208 := eq_true p208
                  replace q208 := eq_true q208
                  refine start_ (n := 13) (S := fun w' => w'.cell? ⟨gb194, 0, none⟩ = some (.int .i64 a2_0) ∧ w'.cell? ⟨gb194, 1, none⟩ = some (.int .i64 a2_1) ∧ w'.cell? (ad208.add ((x8_3).toNat * 3)) = some (.string ((rd_T89 l0 x8_3).f0)) ∧ w'.cell? ⟨(ad208.add ((x8_3).toNat * 3)).block, (ad208.add ((x8_3).toNat * 3)).off + 1, none⟩ = some (.int .i64 ((rd_T89 l0 x8_3).f1.f0)) ∧ w'.cell? ⟨(ad208.add ((x8_3).toNat * 3)).block, (ad208.add ((x8_3).toNat * 3)).off + 2, none⟩ = some (.int .i64 ((rd_T89 l0 x8_3).f1.f1))) (ds := []) #[false, false, false, false, false, false, false, false, false, false, false, false, false] (by kernel_rfl) rfl rfl ⟨(blk_cell BK194.out 0).trans rfl, (blk_cell BK194.out 1).trans rfl, (zH HB hw208_0 :), (zH HB hw208_1 :), (zH HB hw208_2 :)⟩ (fun hHeld => ?_); refine with_tabW spec_l01Put.tab6 spec_l01Put.bits6 (fun HT_ HW_ => ?_)
                  generalize wc.drew = w61 at HO_9 BK194 HB hx208_0 hx208_1 hx208_2 hHeld ⊢
                  refine zP 0 (N := some 46) (h := ?_)
                  refine zP 1 (N := some 47) (h := ?_)
                  refine zP 2 (N := some 48) (h := ?_)
                  refine zP 3 (N := some 49) (h := ?_)
                  refine zT 4 hHeld (N := some 50) (h := ?_)
                  refine zT 5 hHeld (N := some 51) (h := ?_)
                  refine join_ (σ := Nat) 2 #[true, true, true, true, true, true, true, true, true, true, true, false, false] (fun s_ => [(52, .tuple #[.agg #[.int .i64 t209, .int .i64 t210], .bool false]), (10, .pointer (some ⟨s_, 0, none⟩)), (45, .tuple #[.agg #[.int .i64 t209, .int .i64 t210], .bool false]), (53, .agg #[.int .i64 t209, .int .i64 t210]), (54, .bool false)]) (fun s_ w' => (w'.cell? ⟨gb194, 0, none⟩ = some (.int .i64 a2_0) ∧ w'.cell? ⟨gb194, 1, none⟩ = some (.int .i64 a2_1) ∧ w'.cell? (ad208.add ((x8_3).toNat * 3)) = some (.string ((rd_T89 l0 x8_3).f0)) ∧ w'.cell? ⟨(ad208.add ((x8_3).toNat * 3)).block, (ad208.add ((x8_3).toNat * 3)).off + 1, none⟩ = some (.int .i64 ((rd_T89 l0 x8_3).f1.f0)) ∧ w'.cell? ⟨(ad208.add ((x8_3).toNat * 3)).block, (ad208.add ((x8_3).toNat * 3)).off + 2, none⟩ = some (.int .i64 ((rd_T89 l0 x8_3).f1.f1))) ∧ (Kd.R k89 89 w' w.heap.size (fun _ => True) v205 y204) ∧ (w'.heap[gb194]? = some (.cells #[.int .i64 a2_0, .int .i64 a2_1] 27 (0, 0))) ∧ (w'.heap[s_]? = some (.cells #[.int .i64 0, .int .i64 0] 27 (0, 0))) ∧ (w.heap.size ≤ s_) ∧ (w.heap.size ≤ s_) ∧ (gb194 ≠ s_) ∧ (s_ ≠ gb194) ∧ (Below w.heap.size w w')) ?_ ?_
                  rotate_left
                  ·intro hCont
                   refine two_ (i := 6) (j := 10) (Ni := some 52) (Nj := some 10) #[true, true, true, true, true, true, true, false, false, false, false, false, false] #[true, true, true, true, true, true, false, false, false, false, true, false, false] rfl rfl rfl rfl (two_of HT_.out (by kernel_rfl)) (by decide) (by decide) (fun K hK => ?_) (fun K hK => ?_)
                   ·skip
                    refine goes_ Try.func109 (by kernel_rfl) rfl #[.agg #[.int .i64 ((rd_T89 l0 x8_3).f1.f0), .int .i64 ((rd_T89 l0 x8_3).f1.f1)], .agg #[.int .i64 a2_0, .int .i64 a2_1]] (by rfl) rfl rfl zM ?_
                    with_reducible refine (spec_l01Plus.calls kj12 ((rd_T89 l0 x8_3).f1.f0) ((rd_T89 l0 x8_3).f1.f1) a2_0 a2_1 t209 t210 false _ A22.out).mono ?_
                    rintro e w62 ⟨rfl, hb⟩
                    refine ⟨_, rfl, ?_⟩
                    have n0_ := Aside0.mk (Kd.R_below (by (with_reducible repeat (first | apply Kd.R_alloc | apply Kd.R_drewN | apply Kd.R_drew)); exact HO_9.out) hb)
                    have n1_ := Aside0.mk (blk_below (g := gb194) (o := .cells #[.int .i64 a2_0, .int .i64 a2_1] 27 (0, 0)) zK hb)
                    have n2_ := Aside0.mk (below_step zB hb)
                    clear HO_9
                    clear BK194
                    clear HB
                    have HO_9 := n0_
                    have BK194 := n1_
                    have HB := n2_
                    clear n0_ n1_ n2_
                    (try clear hb)
                    (try clear hb2)
                    (try clear hk)
                    (try clear hi)
                    refine hK.out _ _ ⟨(blk_cell BK194.out 0).trans rfl, (blk_cell BK194.out 1).trans rfl, (zH HB hw208_0 :), (zH HB hw208_1 :), (zH HB hw208_2 :)⟩ (fun hHeld => ?_)
                    clear hK K
                    refine norm_ (a' := ?_) ?_ ?_
                    rotate_left
                    ·show Act.put _ (some 52) _ = _
                     simp only [Act.put, List.setIfInBounds_toArray, List.set_cons_zero, List.set_cons_succ, i64_w, i32_w]
                     rfl
                    refine zP 7 (N := some 45) (h := ?_)
                    refine zP 8 (N := some 53) (h := ?_)
                    refine zP 9 (N := some 54) (h := ?_)
                    refine one_ (i := 10) (N := some 10) #[true, true, true, true, true, true, true, true, true, true, true, false, false] rfl rfl (one_of HT_.out (by kernel_rfl)) (by decide) (fun K hK => ?_)
                    refine box_step ?hg (N := 10) ?hd (cs := #[.int .i64 0, .int .i64 0]) (t := 27) ?hr ?_; (case hd => rfl); (case hg => rfl); (case hr => first | (go_simp; done) | (go_simp; rfl))
                    intro gb212 hg w63 hbox hb
                    have n0_ := Aside0.mk (Kd.R_below (by (with_reducible repeat (first | apply Kd.R_alloc | apply Kd.R_drewN | apply Kd.R_drew)); exact HO_9.out) hb)
                    have n1_ := Aside0.mk (blk_below (g := gb194) (o := .cells #[.int .i64 a2_0, .int .i64 a2_1] 27 (0, 0)) zK hb)
                    have n2_ := Aside0.mk (below_step zB hb)
                    have n3_ := Aside0.mk (hbox)
                    have n4_ := Aside0.mk (zG : w.heap.size ≤ gb212)
                    have n5_ := Aside0.mk (zG : w.heap.size ≤ gb212)
                    have n6_ := Aside0.mk ((by rw [hg]; exact Nat.ne_of_lt (blk_lt (g := gb194) (o := .cells #[.int .i64 a2_0, .int .i64 a2_1] 27 (0, 0)) zK) : gb194 ≠ gb212))
                    have n7_ := Aside0.mk ((by rw [hg]; exact Nat.ne_of_gt (blk_lt (g := gb194) (o := .cells #[.int .i64 a2_0, .int .i64 a2_1] 27 (0, 0)) zK) : gb212 ≠ gb194))
                    clear HO_9
                    clear BK194
                    clear HB
                    have HO_9 := n0_
                    have BK194 := n1_
                    have HB := n2_
                    have BK212 := n3_
                    have GW212 := n4_
                    have GE212 := n5_
                    have NB194_212 := n6_
                    have NB212_194 := n7_
                    clear n0_ n1_ n2_ n3_ n4_ n5_ n6_ n7_
                    clear hb hbox hg
                    refine hK.out _ _ ⟨(blk_cell BK194.out 0).trans rfl, (blk_cell BK194.out 1).trans rfl, (zH HB hw208_0 :), (zH HB hw208_1 :), (zH HB hw208_2 :)⟩ (fun hHeld => ?_)
                    clear hK K
                    refine norm_ (a' := ?_) ?_ ?_
                    rotate_left
                    ·show Act.put _ (some 10) _ = _
                     simp only [Act.put, List.setIfInBounds_toArray, List.set_cons_zero, List.set_cons_succ, i64_w, i32_w]
                     rfl
                    exact norm_ (by simp only [putAll, Act.put, List.setIfInBounds_toArray, List.set_cons_zero, List.set_cons_succ]) (hCont (gb212) _ ⟨hHeld, zR, zK, zK, GW212.out, GE212.out, NB194_212.out, NB212_194.out, zB⟩)
                   ·skip
                    refine box_step ?hg (N := 10) ?hd (cs := #[.int .i64 0, .int .i64 0]) (t := 27) ?hr ?_; (case hd => rfl); (case hg => rfl); (case hr => first | (go_simp; done) | (go_simp; rfl))
                    intro gb212 hg w62 hbox hb
                    have n0_ := Aside0.mk (Kd.R_below (by (with_reducible repeat (first | apply Kd.R_alloc | apply Kd.R_drewN | apply Kd.R_drew)); exact HO_9.out) hb)
                    have n1_ := Aside0.mk (blk_below (g := gb194) (o := .cells #[.int .i64 a2_0, .int .i64 a2_1] 27 (0, 0)) zK hb)
                    have n2_ := Aside0.mk (below_step zB hb)
                    have n3_ := Aside0.mk (hbox)
                    have n4_ := Aside0.mk (zG : w.heap.size ≤ gb212)
                    have n5_ := Aside0.mk (zG : w.heap.size ≤ gb212)
                    have n6_ := Aside0.mk ((by rw [hg]; exact Nat.ne_of_lt (blk_lt (g := gb194) (o := .cells #[.int .i64 a2_0, .int .i64 a2_1] 27 (0, 0)) zK) : gb194 ≠ gb212))
                    have n7_ := Aside0.mk ((by rw [hg]; exact Nat.ne_of_gt (blk_lt (g := gb194) (o := .cells #[.int .i64 a2_0, .int .i64 a2_1] 27 (0, 0)) zK) : gb212 ≠ gb194))
                    clear HO_9
                    clear BK194
                    clear HB
                    have HO_9 := n0_
                    have BK194 := n1_
                    have HB := n2_
                    have BK212 := n3_
                    have GW212 := n4_
                    have GE212 := n5_
                    have NB194_212 := n6_
                    have NB212_194 := n7_
                    clear n0_ n1_ n2_ n3_ n4_ n5_ n6_ n7_
                    clear hb hbox hg
                    refine hK.out _ _ ⟨(blk_cell BK194.out 0).trans rfl, (blk_cell BK194.out 1).trans rfl, (zH HB hw208_0 :), (zH HB hw208_1 :), (zH HB hw208_2 :)⟩ (fun hHeld => ?_)
                    clear hK K
                    refine norm_ (a' := ?_) ?_ ?_
                    rotate_left
                    ·show Act.put _ (some 10) _ = _
                     simp only [Act.put, List.setIfInBounds_toArray, List.set_cons_zero, List.set_cons_succ, i64_w, i32_w]
                     rfl
                    refine one_ (i := 6) (N := some 52) #[true, true, true, true, true, true, true, false, false, false, true, false, false] rfl rfl (one_of HT_.out (by kernel_rfl)) (by decide) (fun K hK => ?_)
                    refine goes_ Try.func109 (by kernel_rfl) rfl #[.agg #[.int .i64 ((rd_T89 l0 x8_3).f1.f0), .int .i64 ((rd_T89 l0 x8_3).f1.f1)], .agg #[.int .i64 a2_0, .int .i64 a2_1]] (by rfl) rfl rfl zM ?_
                    with_reducible refine (spec_l01Plus.calls kj12 ((rd_T89 l0 x8_3).f1.f0) ((rd_T89 l0 x8_3).f1.f1) a2_0 a2_1 t209 t210 false _ A22.out).mono ?_
                    rintro e w63 ⟨rfl, hb⟩
                    refine ⟨_, rfl, ?_⟩
                    have n0_ := Aside0.mk (Kd.R_below (by (with_reducible repeat (first | apply Kd.R_alloc | apply Kd.R_drewN | apply Kd.R_drew)); exact HO_9.out) hb)
                    have n1_ := Aside0.mk (blk_below (g := gb194) (o := .cells #[.int .i64 a2_0, .int .i64 a2_1] 27 (0, 0)) zK hb)
                    have n2_ := Aside0.mk (blk_below (g := gb212) (o := .cells #[.int .i64 0, .int .i64 0] 27 (0, 0)) zK hb)
                    have n3_ := Aside0.mk (below_step zB hb)
                    clear HO_9
                    clear BK194
                    clear BK212
                    clear HB
                    have HO_9 := n0_
                    have BK194 := n1_
                    have BK212 := n2_
                    have HB := n3_
                    clear n0_ n1_ n2_ n3_
                    (try clear hb)
                    (try clear hb2)
                    (try clear hk)
                    (try clear hi)
                    refine hK.out _ _ ⟨(blk_cell BK194.out 0).trans rfl, (blk_cell BK194.out 1).trans rfl, (zH HB hw208_0 :), (zH HB hw208_1 :), (zH HB hw208_2 :)⟩ (fun hHeld => ?_)
                    clear hK K
                    refine norm_ (a' := ?_) ?_ ?_
                    rotate_left
                    ·show Act.put _ (some 52) _ = _
                     simp only [Act.put, List.setIfInBounds_toArray, List.set_cons_zero, List.set_cons_succ, i64_w, i32_w]
                     rfl
                    refine zP 7 (N := some 45) (h := ?_)
                    refine zP 8 (N := some 53) (h := ?_)
                    refine zP 9 (N := some 54) (h := ?_)
                    exact norm_ (by simp only [putAll, Act.put, List.setIfInBounds_toArray, List.set_cons_zero, List.set_cons_succ]) (hCont (gb212) _ ⟨hHeld, zR, zK, zK, GW212.out, GE212.out, NB194_212.out, NB212_194.out, zB⟩)
                  rintro gb212 w64 ⟨hS_, h0_, h1_, h2_, h3_, h4_, h5_, h6_, h7_⟩
                  have n0_ : Aside0 (Kd.R k89 89 w64 w.heap.size (fun _ => True) v205 y204) := ⟨h0_⟩
                  have n1_ : Aside0 (w64.heap[gb194]? = some (.cells #[.int .i64 a2_0, .int .i64 a2_1] 27 (0, 0))) := ⟨h1_⟩
                  have n2_ : Aside0 (w64.heap[gb212]? = some (.cells #[.int .i64 0, .int .i64 0] 27 (0, 0))) := ⟨h2_⟩
                  have n3_ : Aside0 (w.heap.size ≤ gb212) := ⟨h3_⟩
                  have n4_ : Aside0 (w.heap.size ≤ gb212) := ⟨h4_⟩
                  have n5_ : Aside0 (gb194 ≠ gb212) := ⟨h5_⟩
                  have n6_ : Aside0 (gb212 ≠ gb194) := ⟨h6_⟩
                  have n7_ : Aside0 (Below w.heap.size w w64) := ⟨h7_⟩
                  clear HO_9
                  clear BK194
                  clear HB
                  clear h0_ h1_ h2_ h3_ h4_ h5_ h6_ h7_
                  have HO_9 := n0_
                  have BK194 := n1_
                  have BK212 := n2_
                  have GW212 := n3_
                  have GE212 := n4_
                  have NB194_212 := n5_
                  have NB212_194 := n6_
                  have HB := n7_
                  clear n0_ n1_ n2_ n3_ n4_ n5_ n6_ n7_
                  have hHeld : w64.cell? ⟨gb194, 0, none⟩ = some (.int .i64 a2_0) ∧ w64.cell? ⟨gb194, 1, none⟩ = some (.int .i64 a2_1) ∧ w64.cell? (ad208.add ((x8_3).toNat * 3)) = some (.string ((rd_T89 l0 x8_3).f0)) ∧ w64.cell? ⟨(ad208.add ((x8_3).toNat * 3)).block, (ad208.add ((x8_3).toNat * 3)).off + 1, none⟩ = some (.int .i64 ((rd_T89 l0 x8_3).f1.f0)) ∧ w64.cell? ⟨(ad208.add ((x8_3).toNat * 3)).block, (ad208.add ((x8_3).toNat * 3)).off + 2, none⟩ = some (.int .i64 ((rd_T89 l0 x8_3).f1.f1)) := hS_
                  refine norm_ (a' := ?_) ?_ ?_
                  rotate_left
                  ·simp only [putAll, Act.put, List.setIfInBounds_toArray, List.set_cons_zero, List.set_cons_succ]
                   rfl
                  refine one_ (i := 11) (N := none) #[true, true, true, true, true, true, true, true, true, true, true, true, false] rfl rfl (one_of HT_.out (by kernel_rfl)) (by decide) (fun K hK => ?_)
                  have hs65 : w64.cell? ⟨gb212, 0, none⟩ = some (.int .i64 0) := (blk_cell BK212.out 0).trans rfl
                  have hfs65 := blk_frozen BK212.out 0
                  have hns65_0 := NB194_212.out
                  have hms65_0 := NB212_194.out
                  have hs66 : w64.cell? ⟨gb212, 1, none⟩ = some (.int .i64 0) := (blk_cell BK212.out 1).trans rfl
                  have hfs66 := blk_frozen BK212.out 1
                  have hns66_0 := NB194_212.out
                  have hms66_0 := NB212_194.out
                  refine skip_ (w1 := ?_) (by rfl) rfl ?_ ?_
                  rotate_left
                  ·go_simp
                   rfl
                  refine hK.out _ _ ⟨((cell_far (p := ⟨gb212, _, none⟩) NB194_212.out _).trans (((cell_far (p := ⟨gb212, _, none⟩) NB194_212.out _).trans (hHeld.1)))), ((cell_far (p := ⟨gb212, _, none⟩) NB194_212.out _).trans (((cell_far (p := ⟨gb212, _, none⟩) NB194_212.out _).trans (hHeld.2.1)))), ((cell_far (p := ⟨gb212, _, none⟩) (by first | exact Nat.ne_of_lt (Nat.lt_of_lt_of_le (by have := World.block_lt_of_cell? _ _ hw208_0; first | rwa [add_block] at this | exact this) GW212.out) | (rw [add_block]; exact Nat.ne_of_lt (Nat.lt_of_lt_of_le (by have := World.block_lt_of_cell? _ _ hw208_0; first | rwa [add_block] at this | exact this) GW212.out)) | (show (Addr.add _ _).block ≠ _; rw [add_block]; exact Nat.ne_of_lt (Nat.lt_of_lt_of_le (by have := World.block_lt_of_cell? _ _ hw208_0; first | rwa [add_block] at this | exact this) GW212.out)) | (dsimp only; exact Nat.ne_of_lt (Nat.lt_of_lt_of_le (by have := World.block_lt_of_cell? _ _ hw208_0; first | rwa [add_block] at this | exact this) GW212.out))) _).trans (((cell_far (p := ⟨gb212, _, none⟩) (by first | exact Nat.ne_of_lt (Nat.lt_of_lt_of_le (by have := World.block_lt_of_cell? _ _ hw208_0; first | rwa [add_block] at this | exact this) GW212.out) | (rw [add_block]; exact Nat.ne_of_lt (Nat.lt_of_lt_of_le (by have := World.block_lt_of_cell? _ _ hw208_0; first | rwa [add_block] at this | exact this) GW212.out)) | (show (Addr.add _ _).block ≠ _; rw [add_block]; exact Nat.ne_of_lt (Nat.lt_of_lt_of_le (by have := World.block_lt_of_cell? _ _ hw208_0; first | rwa [add_block] at this | exact this) GW212.out)) | (dsimp only; exact Nat.ne_of_lt (Nat.lt_of_lt_of_le (by have := World.block_lt_of_cell? _ _ hw208_0; first | rwa [add_block] at this | exact this) GW212.out))) _).trans (hHeld.2.2.1)))), ((cell_far (p := ⟨gb212, _, none⟩) (by first | exact Nat.ne_of_lt (Nat.lt_of_lt_of_le (by have := World.block_lt_of_cell? _ _ hw208_1; first | rwa [add_block] at this | exact this) GW212.out) | (rw [add_block]; exact Nat.ne_of_lt (Nat.lt_of_lt_of_le (by have := World.block_lt_of_cell? _ _ hw208_1; first | rwa [add_block] at this | exact this) GW212.out)) | (show (Addr.add _ _).block ≠ _; rw [add_block]; exact Nat.ne_of_lt (Nat.lt_of_lt_of_le (by have := World.block_lt_of_cell? _ _ hw208_1; first | rwa [add_block] at this | exact this) GW212.out)) | (dsimp only; exact Nat.ne_of_lt (Nat.lt_of_lt_of_le (by have := World.block_lt_of_cell? _ _ hw208_1; first | rwa [add_block] at this | exact this) GW212.out))) _).trans (((cell_far (p := ⟨gb212, _, none⟩) (by first | exact Nat.ne_of_lt (Nat.lt_of_lt_of_le (by have := World.block_lt_of_cell? _ _ hw208_1; first | rwa [add_block] at this | exact this) GW212.out) | (rw [add_block]; exact Nat.ne_of_lt (Nat.lt_of_lt_of_le (by have := World.block_lt_of_cell? _ _ hw208_1; first | rwa [add_block] at this | exact this) GW212.out)) | (show (Addr.add _ _).block ≠ _; rw [add_block]; exact Nat.ne_of_lt (Nat.lt_of_lt_of_le (by have := World.block_lt_of_cell? _ _ hw208_1; first | rwa [add_block] at this | exact this) GW212.out)) | (dsimp only; exact Nat.ne_of_lt (Nat.lt_of_lt_of_le (by have := World.block_lt_of_cell? _ _ hw208_1; first | rwa [add_block] at this | exact this) GW212.out))) _).trans (hHeld.2.2.2.1)))), ((cell_far (p := ⟨gb212, _, none⟩) (by first | exact Nat.ne_of_lt (Nat.lt_of_lt_of_le (by have := World.block_lt_of_cell? _ _ hw208_2; first | rwa [add_block] at this | exact this) GW212.out) | (rw [add_block]; exact Nat.ne_of_lt (Nat.lt_of_lt_of_le (by have := World.block_lt_of_cell? _ _ hw208_2; first | rwa [add_block] at this | exact this) GW212.out)) | (show (Addr.add _ _).block ≠ _; rw [add_block]; exact Nat.ne_of_lt (Nat.lt_of_lt_of_le (by have := World.block_lt_of_cell? _ _ hw208_2; first | rwa [add_block] at this | exact this) GW212.out)) | (dsimp only; exact Nat.ne_of_lt (Nat.lt_of_lt_of_le (by have := World.block_lt_of_cell? _ _ hw208_2; first | rwa [add_block] at this | exact this) GW212.out))) _).trans (((cell_far (p := ⟨gb212, _, none⟩) (by first | exact Nat.ne_of_lt (Nat.lt_of_lt_of_le (by have := World.block_lt_of_cell? _ _ hw208_2; first | rwa [add_block] at this | exact this) GW212.out) | (rw [add_block]; exact Nat.ne_of_lt (Nat.lt_of_lt_of_le (by have := World.block_lt_of_cell? _ _ hw208_2; first | rwa [add_block] at this | exact this) GW212.out)) | (show (Addr.add _ _).block ≠ _; rw [add_block]; exact Nat.ne_of_lt (Nat.lt_of_lt_of_le (by have := World.block_lt_of_cell? _ _ hw208_2; first | rwa [add_block] at this | exact this) GW212.out)) | (dsimp only; exact Nat.ne_of_lt (Nat.lt_of_lt_of_le (by have := World.block_lt_of_cell? _ _ hw208_2; first | rwa [add_block] at this | exact this) GW212.out))) _).trans (hHeld.2.2.2.2))))⟩ (fun hHeld => ?_)
                  clear hK K
                  refine zP 12 (N := some 11) (h := ?_)
                  refine done_ (done_of HT_.out (by kernel_rfl)) ?_
                  try go_wp2
                  go_ret2
                  exact ⟨_, by first | rfl | (simp [errW_none, errW_some] <;> rfl) | (simp [*, errW_none, errW_some] <;> rfl), by first | exact Kd.R_nil _ _ _ _ _ | exact Kd.N_nil _ _ _ _ _ | exact Kd.V_nil _ _ _ _ _ | exact Kd.Q_nil _ _ _ _ _ | exact Kd.S_nil _ _ _ _ _, zB⟩
                ·rw [if_neg c21] at H
                 exact absurd H (by simp)
               ·rw [if_neg c20] at H
                exact absurd H (by simp)
              ·replace c19 := Bool.eq_false_iff.mpr c19
               subst c19
               have H1 : ((spec_l01Zero.f a2_0 a2_1).bind fun t231 => (if t231 = true then (if 0 ≤ x8_3 then (if x8_3 ≤ (l0.length : Int) then ((some (l0.drop (x8_3 : Int).toNat : List (S89))).bind fun y232 => (if y204.length + y232.length < 4398046511104 then (some ((y204 ++ y232), true)) else (none))) else (none)) else (none)) else (if y204.length < 4398046511104 then ((some (y204 ++ [(⟨a1, (⟨a2_0, a2_1⟩ : S27)⟩ : S89)] : List (S89))).bind fun y239 => (if 0 ≤ x8_3 then (if x8_3 ≤ (l0.length : Int) then ((some (l0.drop (x8_3 : Int).toNat : List (S89))).bind fun y242 => (if y239.length + y242.length < 4398046511104 then (some ((y239 ++ y242), true)) else (none))) else (none)) else (none))) else (none)))) = some (r1, r2) := by rw [if_neg (show ¬ (false = true) by decide)] at H; exact H
               clear H
               have H := H1
               clear H1
               replace H := Option.bind_eq_some_iff.mp H
               obtain ⟨t231, A670, H⟩ := H
               replace H : (if t231 = true then (if 0 ≤ x8_3 then (if x8_3 ≤ (l0.length : Int) then ((some (l0.drop (x8_3 : Int).toNat : List (S89))).bind fun y232 => (if y204.length + y232.length < 4398046511104 then (some ((y204 ++ y232), true)) else (none))) else (none)) else (none)) else (if y204.length < 4398046511104 then ((some (y204 ++ [(⟨a1, (⟨a2_0, a2_1⟩ : S27)⟩ : S89)] : List (S89))).bind fun y239 => (if 0 ≤ x8_3 then (if x8_3 ≤ (l0.length : Int) then ((some (l0.drop (x8_3 : Int).toNat : List (S89))).bind fun y242 => (if y239.length + y242.length < 4398046511104 then (some ((y239 ++ y242), true)) else (none))) else (none)) else (none))) else (none))) = some (r1, r2) := H
               have A67 := Aside0.mk A670
               clear A670
               by_cases c68 : t231 = true
               ·subst c68
                have H1 : (if 0 ≤ x8_3 then (if x8_3 ≤ (l0.length : Int) then ((some (l0.drop (x8_3 : Int).toNat : List (S89))).bind fun y232 => (if y204.length + y232.length < 4398046511104 then (some ((y204 ++ y232), true)) else (none))) else (none)) else (none)) = some (r1, r2) := by rw [if_pos rfl] at H; exact H
                clear H
                have H := H1
                clear H1
                by_cases c69 : 0 ≤ x8_3
                ·rw [if_pos c69] at H
                 have c69b0 := eq_true c69
                 have c69b1 : decide (0 ≤ x8_3) = true := decide_eq_true c69
                 clear c69
                 by_cases c70 : x8_3 ≤ (l0.length : Int)
                 ·rw [if_pos c70] at H
                  have c70b0 := eq_true c70
                  have c70b1 : decide (x8_3 ≤ (l0.length : Int)) = true := decide_eq_true c70
                  clear c70
                  obtain ⟨y232, hy232⟩ : ∃ y_ : List (S89), y_ = (l0.drop (x8_3 : Int).toNat) := ⟨_, rfl⟩
                  replace H : (if y204.length + y232.length < 4398046511104 then (some ((y204 ++ y232), true)) else (none)) = some (r1, r2) := by first | (rw [hy232]; with_reducible exact H) | (have H2_ := (Option.bind_some _ _).symm.trans H; rw [hy232]; with_reducible exact H2_) | (have H2_ := (Option.bind_some _ _).symm.trans H; with_reducible exact H2_) | with_reducible exact H | (rw [hy232]; exact H) | exact H
                  have Ny232 := Aside0.mk hy232
                  clear hy232
                  by_cases c71 : y204.length + y232.length < 4398046511104
                  ·rw [if_pos c71] at H
                   have LMc71 := Aside0.mk c71
                   clear c71
                   obtain ⟨y236, hy236⟩ : ∃ y_ : List (S89), y_ = (y204 ++ y232) := ⟨_, rfl⟩
                   replace H : (some (y236, true)) = some (r1, r2) := by first | (rw [hy236]; with_reducible exact H) | (have H2_ := (Option.bind_some _ _).symm.trans H; rw [hy236]; with_reducible exact H2_) | (have H2_ := (Option.bind_some _ _).symm.trans H; with_reducible exact H2_) | with_reducible exact H | (rw [hy236]; exact H) | exact H
                   have Ny236 := Aside0.mk hy236
                   clear hy236
                   simp only [Option.some.injEq, Prod.mk.injEq] at H
                   obtain ⟨rfl, rfl⟩ := H
                   have hcz72_0 : wc.cell? ⟨gb194, 0, none⟩ = some (.int .i64 a2_0) := zE BK194
                   have hcz72_1 : wc.cell? ⟨gb194, 1, none⟩ = some (.int .i64 a2_1) := zE BK194
                   have hfz72_0 := blk_frozen BK194.out 0
                   have hfz72_1 := blk_frozen BK194.out 1
                   go_wp2_with (first | ((with_reducible refine gate_callee (f := 104) rfl ?_); refine goesL_ (some 61) rfl rfl Try.func104 (by kernel_rfl) rfl #[.agg #[.int .i64 a2_0, .int .i64 a2_1]] rfl zM ?_; (with_reducible refine (spec_l01Zero.calls a2_0 a2_1 true _ A67.out).mono ?_); rintro e w73 ⟨rfl, hb⟩; refine ⟨_, rfl, ?_⟩; have n0_ := Aside0.mk (Kd.R_below (by (with_reducible repeat (first | apply Kd.R_alloc | apply Kd.R_drewN | apply Kd.R_drew)); exact HO_9.out) hb); have n1_ := Aside0.mk (blk_below (g := gb194) (o := .cells #[.int .i64 a2_0, .int .i64 a2_1] 27 (0, 0)) zK hb); have n2_ := Aside0.mk (below_step zB hb); clear HO_9; clear BK194; clear HB; have HO_9 := n0_; have BK194 := n1_; have HB := n2_; clear n0_ n1_ n2_; (try clear hb); (try clear hb2); (try clear hk); (try clear hi); have q74 : (x8_3 : Int) ≤ ((l0.length : Int) : Int) := zD; obtain ⟨i074, hi074, _, hsz74, _⟩ := info_parts info89; have hroom74 : l0.length ≤ c0 := HC0.out; have hC74 : Kd.C k89 _ A0 l0.length l0 := HR0.out; have q074 : (0 : Int) ≤ (x8_3 : Int) := zD; have hcut74 := cut_from (P := Try.prog) 30 89 .i64 Try.underlying30 hi074 3 hsz74 A0 l0.length c0 x8_3 q074 q74; have hr74 := Kd.C_drop (m := (x8_3 : Int).toNat) (c := c0) hC74 (by omega) hroom74; obtain ⟨A74, hA74⟩ : ∃ A1, A1 = (if c0 = (x8_3 : Int).toNat then A0 else (A0 : Option Addr).map (·.add ((x8_3 : Int).toNat * 3))) := ⟨_, rfl⟩; obtain ⟨c74, hc74⟩ : ∃ c1, c1 = c0 - (x8_3 : Int).toNat := ⟨_, rfl⟩; have hy74 : y232.length = l0.length - (x8_3 : Int).toNat := (by rw [Ny232.out, List.length_drop] <;> omega); rw [show (l0).drop (x8_3 : Int).toNat = y232 from Ny232.out.symm] at hr74; replace hr74 : Kd.C k89 _ A74 y232.length y232 := (by rw [hA74]; exact hr74); rw [← hy74, ← hA74, ← hc74] at hcut74; have HR235 := Aside0.mk hr74; have HC235 := Aside0.mk (show y232.length ≤ c74 from by rw [hy74, hc74]; exact Nat.sub_le_sub_right hroom74 _); clear hr74 hC74 hroom74 hi074 hsz74 hc74; have KY74 := Aside0.mk hy74; have KA74 := Aside0.mk hA74; clear hy74 hA74; replace q74 := eq_true q74) | ((with_reducible refine gate_builtin (b := .append) (xs := #[.tmp 69, .tmp 72]) rfl ?_); at_builtin; refine Kd.R_append_rows k89 (w0 := w) w.heap.size rfl (.tmp 69) (.tmp 72) 30 89 (.agg #[(.string ⟨#[]⟩), (.int .i64 0), (.int .i64 0)]) 32 rfl Try.underlying30 info89 rfl (by decide) (by omega) v205 y204 y232 _ _ _ (fun _ => True) (fun _ => False) rfl rfl ?aO ?aR (fun _ _ h => h) (fun _ h => h.elim) ?aF ?aB ?aS ?aL ?_; (case aR => repeat (first | exact (Kd.C_below HR235.out HB.out) | (with_reducible refine Kd.C_alloc ?_ _) | (with_reducible refine Kd.C_drewN ?_ _) | (with_reducible refine Kd.C_drew ?_))); (case aB => exact zB); (case aF => exact (fun _ _ => trivial)); (case aO => exact zR); (case aS => exact (below_size zB)); (case aL => have := LMc71.out; omega); intro v237 w75 ho hb hg hat; rw [← Ny236.out] at ho; have n0_ := Aside0.mk (blk_grown (g := gb194) (o := .cells #[.int .i64 a2_0, .int .i64 a2_1] 27 (0, 0)) zK hg (Kd.R_ne HO_9.out BK194.out (by decide))); have n1_ := Aside0.mk (hb); have n2_ := Aside0.mk (ho); clear BK194; clear HB; clear HO_9; have BK194 := n0_; have HB := n1_; have HO238 := n2_; clear n0_ n1_ n2_; clear ho hb hg hat))
                   go_ret2
                   exact ⟨_, by first | rfl | (simp [errW_none, errW_some] <;> rfl) | (simp [*, errW_none, errW_some] <;> rfl), zR, zB⟩
                  ·rw [if_neg c71] at H
                   exact absurd H (by simp)
                 ·rw [if_neg c70] at H
                  exact absurd H (by simp)
                ·rw [if_neg c69] at H
                 exact absurd H (by simp)
               ·replace c68 := Bool.eq_false_iff.mpr c68
                subst c68
                have H1 : (if y204.length < 4398046511104 then ((some (y204 ++ [(⟨a1, (⟨a2_0, a2_1⟩ : S27)⟩ : S89)] : List (S89))).bind fun y239 => (if 0 ≤ x8_3 then (if x8_3 ≤ (l0.length : Int) then ((some (l0.drop (x8_3 : Int).toNat : List (S89))).bind fun y242 => (if y239.length + y242.length < 4398046511104 then (some ((y239 ++ y242), true)) else (none))) else (none)) else (none))) else (none)) = some (r1, r2) := by rw [if_neg (show ¬ (false = true) by decide)] at H; exact H
                clear H
                have H := H1
                clear H1
                by_cases c76 : y204.length < 4398046511104
                ·rw [if_pos c76] at H
                 have LMc76 := Aside0.mk c76
                 clear c76
                 obtain ⟨y239, hy239⟩ : ∃ y_ : List (S89), y_ = (y204 ++ [(⟨a1, (⟨a2_0, a2_1⟩ : S27)⟩ : S89)]) := ⟨_, rfl⟩
                 replace H : (if 0 ≤ x8_3 then (if x8_3 ≤ (l0.length : Int) then ((some (l0.drop (x8_3 : Int).toNat : List (S89))).bind fun y242 => (if y239.length + y242.length < 4398046511104 then (some ((y239 ++ y242), true)) else (none))) else (none)) else (none)) = some (r1, r2) := by first | (rw [hy239]; with_reducible exact H) | (have H2_ := (Option.bind_some _ _).symm.trans H; rw [hy239]; with_reducible exact H2_) | (have H2_ := (Option.bind_some _ _).symm.trans H; with_reducible exact H2_) | with_reducible exact H | (rw [hy239]; exact H) | exact H
                 have Ny239 := Aside0.mk hy239
                 clear hy239
                 by_cases c77 : 0 ≤ x8_3
                 ·rw [if_pos c77] at H
                  have c77b0 := eq_true c77
                  have c77b1 : decide (0 ≤ x8_3) = true := decide_eq_true c77
                  clear c77
                  by_cases c78 : x8_3 ≤ (l0.length : Int)
                  ·rw [if_pos c78] at H
                   have c78b0 := eq_true c78
                   have c78b1 : decide (x8_3 ≤ (l0.length : Int)) = true := decide_eq_true c78
                   clear c78
                   obtain ⟨y242, hy242⟩ : ∃ y_ : List (S89), y_ = (l0.drop (x8_3 : Int).toNat) := ⟨_, rfl⟩
                   replace H : (if y239.length + y242.length < 4398046511104 then (some ((y239 ++ y242), true)) else (none)) = some (r1, r2) := by first | (rw [hy242]; with_reducible exact H) | (have H2_ := (Option.bind_some _ _).symm.trans H; rw [hy242]; with_reducible exact H2_) | (have H2_ := (Option.bind_some _ _).symm.trans H; with_reducible exact H2_) | with_reducible exact H | (rw [hy242]; exact H) | exact H
                   have Ny242 := Aside0.mk hy242
                   clear hy242
                   by_cases c79 : y239.length + y242.length < 4398046511104
                   ·rw [if_pos c79] at H
                    have LMc79 := Aside0.mk c79
                    clear c79
                    obtain ⟨y246, hy246⟩ : ∃ y_ : List (S89), y_ = (y239 ++ y242) := ⟨_, rfl⟩
                    replace H : (some (y246, true)) = some (r1, r2) := by first | (rw [hy246]; with_reducible exact H) | (have H2_ := (Option.bind_some _ _).symm.trans H; rw [hy246]; with_reducible exact H2_) | (have H2_ := (Option.bind_some _ _).symm.trans H; with_reducible exact H2_) | with_reducible exact H | (rw [hy246]; exact H) | exact H
                    have Ny246 := Aside0.mk hy246
                    clear hy246
                    simp only [Option.some.injEq, Prod.mk.injEq] at H
                    obtain ⟨rfl, rfl⟩ := H
                    have hcz80_0 : wc.cell? ⟨gb194, 0, none⟩ = some (.int .i64 a2_0) := zE BK194
                    have hcz80_1 : wc.cell? ⟨gb194, 1, none⟩ = some (.int .i64 a2_1) := zE BK194
                    have hfz80_0 := blk_frozen BK194.out 0
                    have hfz80_1 := blk_frozen BK194.out 1
                    go_wp2_with (first | ((with_reducible refine gate_callee (f := 104) rfl ?_); refine goesL_ (some 61) rfl rfl Try.func104 (by kernel_rfl) rfl #[.agg #[.int .i64 a2_0, .int .i64 a2_1]] rfl zM ?_; (with_reducible refine (spec_l01Zero.calls a2_0 a2_1 false _ A67.out).mono ?_); rintro e w81 ⟨rfl, hb⟩; refine ⟨_, rfl, ?_⟩; have n0_ := Aside0.mk (Kd.R_below (by (with_reducible repeat (first | apply Kd.R_alloc | apply Kd.R_drewN | apply Kd.R_drew)); exact HO_9.out) hb); have n1_ := Aside0.mk (blk_below (g := gb194) (o := .cells #[.int .i64 a2_0, .int .i64 a2_1] 27 (0, 0)) zK hb); have n2_ := Aside0.mk (below_step zB hb); clear HO_9; clear BK194; clear HB; have HO_9 := n0_; have BK194 := n1_; have HB := n2_; clear n0_ n1_ n2_; (try clear hb); (try clear hb2); (try clear hk); (try clear hi); have hcz82_0 : w81.cell? ⟨gb194, 0, none⟩ = some (.int .i64 a2_0) := zE BK194; have hcz82_1 : w81.cell? ⟨gb194, 1, none⟩ = some (.int .i64 a2_1) := zE BK194; have hfz82_0 := blk_frozen BK194.out 0; have hfz82_1 := blk_frozen BK194.out 1) | ((with_reducible refine gate_builtin (b := .append) (xs := #[.tmp 63, .tmp 67]) rfl ?_); at_builtin; refine Kd.R_append k89 (w0 := w) w.heap.size rfl (.tmp 63) (.tmp 67) 30 89 (.agg #[(.string ⟨#[]⟩), (.int .i64 0), (.int .i64 0)]) 32 rfl Try.underlying30 info89 rfl (by decide) (by omega) v205 y204 (⟨a1, (⟨a2_0, a2_1⟩ : S27)⟩ : S89) [.string a1, .int .i64 a2_0, .int .i64 a2_1] (fun _ => True) (fun _ => False) rfl rfl ?aP (fun _ hk => hk.elim) ?aF ?aO ?aB ?aS ?aL ?_; (case aP => exact k89_mkM _ _ _ (⟨a1, (⟨a2_0, a2_1⟩ : S27)⟩ : S89)); (case aB => exact zB); (case aF => exact (fun _ _ => trivial)); (case aO => exact zR); (case aS => exact (below_size zB)); (case aL => have := LMc76.out; omega); intro v240 w83 ho hb hg hat; rw [← Ny239.out] at ho; have n0_ := Aside0.mk (blk_grown (g := gb194) (o := .cells #[.int .i64 a2_0, .int .i64 a2_1] 27 (0, 0)) zK hg (Kd.R_ne HO_9.out BK194.out (by decide))); have n1_ := Aside0.mk (hb); have n2_ := Aside0.mk (ho); clear BK194; clear HB; clear HO_9; have BK194 := n0_; have HB := n1_; have HO241 := n2_; clear n0_ n1_ n2_; clear ho hb hg hat; have q84 : (x8_3 : Int) ≤ ((l0.length : Int) : Int) := zD; obtain ⟨i084, hi084, _, hsz84, _⟩ := info_parts info89; have hroom84 : l0.length ≤ c0 := HC0.out; have hC84 : Kd.C k89 _ A0 l0.length l0 := HR0.out; have q084 : (0 : Int) ≤ (x8_3 : Int) := zD; have hcut84 := cut_from (P := Try.prog) 30 89 .i64 Try.underlying30 hi084 3 hsz84 A0 l0.length c0 x8_3 q084 q84; have hr84 := Kd.C_drop (m := (x8_3 : Int).toNat) (c := c0) hC84 (by omega) hroom84; obtain ⟨A84, hA84⟩ : ∃ A1, A1 = (if c0 = (x8_3 : Int).toNat then A0 else (A0 : Option Addr).map (·.add ((x8_3 : Int).toNat * 3))) := ⟨_, rfl⟩; obtain ⟨c84, hc84⟩ : ∃ c1, c1 = c0 - (x8_3 : Int).toNat := ⟨_, rfl⟩; have hy84 : y242.length = l0.length - (x8_3 : Int).toNat := (by rw [Ny242.out, List.length_drop] <;> omega); rw [show (l0).drop (x8_3 : Int).toNat = y242 from Ny242.out.symm] at hr84; replace hr84 : Kd.C k89 _ A84 y242.length y242 := (by rw [hA84]; exact hr84); rw [← hy84, ← hA84, ← hc84] at hcut84; have HR245 := Aside0.mk hr84; have HC245 := Aside0.mk (show y242.length ≤ c84 from by rw [hy84, hc84]; exact Nat.sub_le_sub_right hroom84 _); clear hr84 hC84 hroom84 hi084 hsz84 hc84; have KY84 := Aside0.mk hy84; have KA84 := Aside0.mk hA84; clear hy84 hA84; replace q84 := eq_true q84) | ((with_reducible refine gate_builtin (b := .append) (xs := #[.tmp 69, .tmp 72]) rfl ?_); at_builtin; refine Kd.R_append_rows k89 (w0 := w) w.heap.size rfl (.tmp 69) (.tmp 72) 30 89 (.agg #[(.string ⟨#[]⟩), (.int .i64 0), (.int .i64 0)]) 32 rfl Try.underlying30 info89 rfl (by decide) (by omega) v240 y239 y242 _ _ _ (fun _ => True) (fun _ => False) rfl rfl ?aO ?aR (fun _ _ h => h) (fun _ h => h.elim) ?aF ?aB ?aS ?aL ?_; (case aR => repeat (first | exact (Kd.C_below HR245.out HB.out) | (with_reducible refine Kd.C_alloc ?_ _) | (with_reducible refine Kd.C_drewN ?_ _) | (with_reducible refine Kd.C_drew ?_))); (case aB => exact zB); (case aF => exact (fun _ _ => trivial)); (case aO => exact zR); (case aS => exact (below_size zB)); (case aL => have := LMc79.out; omega); intro v247 w85 ho hb hg hat; rw [← Ny246.out] at ho; have n0_ := Aside0.mk (blk_grown (g := gb194) (o := .cells #[.int .i64 a2_0, .int .i64 a2_1] 27 (0, 0)) zK hg (Kd.R_ne HO241.out BK194.out (by decide))); have n1_ := Aside0.mk (hb); have n2_ := Aside0.mk (ho); clear BK194; clear HB; clear HO241; have BK194 := n0_; have HB := n1_; have HO248 := n2_; clear n0_ n1_ n2_; clear ho hb hg hat))
                    go_ret2
                    exact ⟨_, by first | rfl | (simp [errW_none, errW_some] <;> rfl) | (simp [*, errW_none, errW_some] <;> rfl), zR, zB⟩
                   ·rw [if_neg c79] at H
                    exact absurd H (by simp)
                  ·rw [if_neg c78] at H
                   exact absurd H (by simp)
                 ·rw [if_neg c77] at H
                  exact absurd H (by simp)
                ·rw [if_neg c76] at H
                 exact absurd H (by simp)
          · rw [if_neg c12] at H
            exact absurd H (by simp)
        · rw [if_neg c11] at H
          exact absurd H (by simp)
      · rw [if_neg c10] at H
        exact absurd H (by simp)

end Go.Proofs.Ytcklefgkbddlhaa.P
