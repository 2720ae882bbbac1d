/- What a call of each Go function named below comes to is what the plain Lean function beside it says. Made by a program of this session out of the print of the translation; Lean checks it. -/
import Derived.Test.YtcklefgkbddlhaaPx0
namespace Go.Proofs.Ytcklefgkbddlhaa.P
open Go.RowKit Go.Proofs.YtcklefgkbddlhaaW.PrintWords Go.Proofs.YtcklefgkbddlhaaW.PrintLast Go.Proofs.YtcklefgkbddlhaaW.PrintMore
attribute [local go_sem] max2_int min2_int max_two min_two max_three min_three max_four min_four   -- for this text's walks alone
set_option linter.unusedVariables false
set_option linter.unusedSimpArgs false


/-! ### spec_l01Words: function 143 -/
mutual
def spec_l01Words.l0 : Nat → Int → Int → List ByteArray → Option (List ByteArray)
  | 0, _, _, _ => none
  | k + 1, x0, x1, x5 => if x1 > 0 then (spec_l01Words.l1 k x0 x1 x5 (([] : List ByteArray)) 0) else (some x5)
def spec_l01Words.l1 : Nat → Int → Int → List ByteArray → List ByteArray → Int → Option (List ByteArray)
  | 0, _, _, _, _, _ => none
  | k + 1, x0, x1, x5, x6, x7 => if x7 < (x5.length : Int) then (spec_l01Words.l2 k x0 x1 x5 x6 x7 0) else (spec_l01Words.l0 k x0 (wrap64 (x1 - 1)) x6)
def spec_l01Words.l2 : Nat → Int → Int → List ByteArray → List ByteArray → Int → Int → Option (List ByteArray)
  | 0, _, _, _, _, _, _ => none
  | k + 1, x0, x1, x5, x6, x7, x8 => if x8 < x0 then (if 0 ≤ x7 then (if x7 < (x5.length : Int) then ((some (([(wrap64 (48 + x8)) % 256] : List Int) : List Int)).bind fun y239 => (if (rdOf ByteArray.empty x5 x7).size + (strOfNums y239).size ≤ 9223372036854775807 then (if x6.length < 8796093022208 then (spec_l01Words.l2 k x0 x1 x5 (x6 ++ [(rdOf ByteArray.empty x5 x7) ++ (strOfNums y239)]) x7 (wrap64 (x8 + 1))) else (none)) else (none))) else (none)) else (none)) else (spec_l01Words.l1 k x0 x1 x5 x6 (wrap64 (x7 + 1)))
end
def spec_l01Words.f (k : Nat) (a0 : Int) (a1 : Int) : Option (List ByteArray) := spec_l01Words.l0 k a0 a1 (([(⟨#[]⟩ : ByteArray)] : List ByteArray))
theorem spec_l01Words.mono_l : ∀ k, (∀ y0 y1 y2, LeO (spec_l01Words.l0 k y0 y1 y2) (spec_l01Words.l0 (k + 1) y0 y1 y2)) ∧ (∀ y0 y1 y2 y3 y4, LeO (spec_l01Words.l1 k y0 y1 y2 y3 y4) (spec_l01Words.l1 (k + 1) y0 y1 y2 y3 y4)) ∧ (∀ y0 y1 y2 y3 y4 y5, LeO (spec_l01Words.l2 k y0 y1 y2 y3 y4 y5) (spec_l01Words.l2 (k + 1) y0 y1 y2 y3 y4 y5))
  | 0 => ⟨fun _ _ _ r h => by simp [spec_l01Words.l0] at h, fun _ _ _ _ _ r h => by simp [spec_l01Words.l1] at h, fun _ _ _ _ _ _ r h => by simp [spec_l01Words.l2] at h⟩
  | k + 1 => by
    obtain ⟨ih0, ih1, ih2⟩ := spec_l01Words.mono_l k
    refine ⟨?_, ?_, ?_⟩
    · intro y0 y1 y2
      unfold spec_l01Words.l0
      repeat' first
      | (with_reducible exact ih0 _ _ _)
      | (with_reducible exact ih1 _ _ _ _ _)
      | (with_reducible exact ih2 _ _ _ _ _ _)
      | (with_reducible exact LeO.refl _)
      | (with_reducible exact LeO.none _)
      | (with_reducible refine LeO.ite ?_ ?_)
      | (with_reducible refine LeO.bind ?_ (fun _ => ?_))
    · intro y0 y1 y2 y3 y4
      unfold spec_l01Words.l1
      repeat' first
      | (with_reducible exact ih0 _ _ _)
      | (with_reducible exact ih1 _ _ _ _ _)
      | (with_reducible exact ih2 _ _ _ _ _ _)
      | (with_reducible exact LeO.refl _)
      | (with_reducible exact LeO.none _)
      | (with_reducible refine LeO.ite ?_ ?_)
      | (with_reducible refine LeO.bind ?_ (fun _ => ?_))
    · intro y0 y1 y2 y3 y4 y5
      unfold spec_l01Words.l2
      repeat' first
      | (with_reducible exact ih0 _ _ _)
      | (with_reducible exact ih1 _ _ _ _ _)
      | (with_reducible exact ih2 _ _ _ _ _ _)
      | (with_reducible exact LeO.refl _)
      | (with_reducible exact LeO.none _)
      | (with_reducible refine LeO.ite ?_ ?_)
      | (with_reducible refine LeO.bind ?_ (fun _ => ?_))
theorem spec_l01Words.mono : ∀ a0 a1 k, LeO (spec_l01Words.f k a0 a1) (spec_l01Words.f (k + 1) a0 a1) := by
  intro a0 a1 k
  obtain ⟨ih0, ih1, ih2⟩ := spec_l01Words.mono_l k
  unfold spec_l01Words.f
  repeat' first
      | (with_reducible exact ih0 _ _ _)
      | (with_reducible exact ih1 _ _ _ _ _)
      | (with_reducible exact ih2 _ _ _ _ _ _)
      | (with_reducible exact LeO.refl _)
      | (with_reducible exact LeO.none _)
      | (with_reducible refine LeO.ite ?_ ?_)
      | (with_reducible refine LeO.bind ?_ (fun _ => ?_))
def spec_l01Words.T11 : Bool × List (List Nat × List Nat) := (true, [([], []), ([], []), ([], []), ([1, 2], [1, 2]), ([3], [3]), ([], []), ([5], [5]), ([6], [6]), ([7], [7]), ([8], [8]), ([4, 9], [4, 9]), ([10], [10]), ([0, 11], [0, 11]), ([12, 12, 0, 1, 2, 3, 4, 5, 6, 7, 8, 9, 10, 11, 12], [0, 12])])
def spec_l01Words.B11 : List Nat := [0, 0, 0, 6, 14, 0, 32, 96, 224, 480, 1022, 2046, 4095, 8191]
theorem spec_l01Words.tab11 : rtab .any (opsOf Try.f143 11) = spec_l01Words.T11 := by kernel_rfl
theorem spec_l01Words.bits11 : waitsOk spec_l01Words.T11.2 spec_l01Words.B11 = true := by kernel_rfl
set_option maxHeartbeats 8000000 in
set_option maxRecDepth 100000 in
theorem spec_l01Words.calls (k : Nat) (a0 : Int) (a1 : Int) (r : List ByteArray) (w : World) (h : spec_l01Words.f k a0 a1 = some r) :
    Calls Try.prog 143 #[.int .i64 a0, .int .i64 a1] w fun e w' => ∃ v0_ : Value, e = .returned (v0_) ∧ Kd.R Kd.string 9 w' w.heap.size (fun _ => True) v0_ r ∧ Below w.heap.size w w' := by
  have HB := Aside0.mk (Below.refl w.heap.size w)
  have H : (spec_l01Words.l0 k a0 a1 (([(⟨#[]⟩ : ByteArray)] : List ByteArray))) = some r := h
  clear h
  obtain ⟨y232, hy232⟩ : ∃ y_ : List ByteArray, y_ = (([(⟨#[]⟩ : ByteArray)] : List ByteArray)) := ⟨_, rfl⟩
  replace H : (spec_l01Words.l0 k a0 a1 y232) = some r := by first | (rw [hy232]; with_reducible exact H) | (have H2_ := (Option.bind_some _ _).symm.trans H; rw [hy232]; with_reducible exact H2_) | (have H2_ := (Option.bind_some _ _).symm.trans H; with_reducible exact H2_) | with_reducible exact H | (rw [hy232]; exact H) | exact H
  have Ny232 := Aside0.mk hy232
  clear hy232
  have H' := Aside0.mk H
  clear H
  go_enter Try.func143, Try.ntmps143
  go_wp2_with (first | ((with_reducible refine gate_dst (N := 9) rfl ?_); refine Kd.R_lit Kd.string _ 9 ?hg (N := 9) ?hd (xs := ([(⟨#[]⟩ : ByteArray)] : List ByteArray)) (inner := [.string (⟨#[]⟩ : ByteArray)]) (ok := fun _ => True) (okp := fun _ => True) ?hr ?hp (fun _ hk => hk) trivial (Below.refl _ _) (Nat.le_refl _) (by simp) ?_; (case hd => rfl); (case hg => rfl); (case hr => first | (go_simp; done) | (go_simp; rfl)); (case hp => exact (Reps.one (show Kd.M Kd.string _ _ _ (⟨#[]⟩ : ByteArray) [.string (⟨#[]⟩ : ByteArray)] from rfl) (Reps.none _ _))); intro v233 w3 ho4 hb hg_ hnew_; clear hg_ hnew_; (first | rw [← Ny232.out] at ho4 | (simp only [Int.reduceToNat] at ho4; rw [← Ny232.out] at ho4)); have HO234 := Aside0.mk (Kd.R_lower ho4 (below_size zB)); replace HB := Aside0.mk (below_step zB hb); clear hb ho4))
  go_loopg [1, 5] k (fun kq v1 v5 w' => ∃ (x1_1 : Int) (x5_1 : List ByteArray), v1 = .int .i64 x1_1 ∧ Aside0 (spec_l01Words.l0 kq a0 x1_1 x5_1 = some r) ∧ Aside0 (kq ≤ k) ∧ Aside0 (Kd.R Kd.string 9 w' w.heap.size (fun _ => True) v5 x5_1) ∧ Aside0 (Below w.heap.size w w'))
  case atStart => exact ⟨(a1), (y232), (by first | rfl | (simp; done) | (simp [*]; done)), H', ⟨Nat.le_refl _⟩, ⟨zR⟩, ⟨zB⟩⟩
  case round =>
    clear H'
    try clear c1
    try clear p2
    obtain ⟨x1_1, x5_1, rfl, HA, HK1, HO_5, HB⟩ := hrel
    cases gk with
    | zero => exact absurd HA.out (by simp [spec_l01Words.l0])
    | succ k1 =>
      have H := HA.out
      clear HA
      simp only [spec_l01Words.l0] at H
      by_cases c5 : x1_1 > 0
      · rw [if_pos c5] at H
        have c5b0 : decide (0 < x1_1) = true := decide_eq_true c5
        clear c5
        obtain ⟨y235, hy235⟩ : ∃ y_ : List ByteArray, y_ = (([] : List ByteArray)) := ⟨_, rfl⟩
        replace H : (spec_l01Words.l1 k1 a0 x1_1 x5_1 y235 0) = some r := by first | (rw [hy235]; with_reducible exact H) | (have H2_ := (Option.bind_some _ _).symm.trans H; rw [hy235]; with_reducible exact H2_) | (have H2_ := (Option.bind_some _ _).symm.trans H; with_reducible exact H2_) | with_reducible exact H | (rw [hy235]; exact H) | exact H
        have Ny235 := Aside0.mk hy235
        clear hy235
        have H' := Aside0.mk H
        clear H
        go_wp2_with (first | ((with_reducible refine gate_dst (N := 14) rfl ?_); refine Kd.R_lit Kd.string _ 9 ?hg (N := 14) ?hd (xs := ([] : List ByteArray)) (inner := []) (ok := fun _ => True) (okp := fun _ => True) ?hr ?hp (fun _ hk => hk) trivial (Below.refl _ _) (Nat.le_refl _) (by simp) ?_; (case hd => rfl); (case hg => rfl); (case hr => first | (go_simp; done) | (go_simp; rfl)); (case hp => exact (Reps.none _ _)); intro v236 w6 ho7 hb hg_ hnew_; clear hg_ hnew_; (first | rw [← Ny235.out] at ho7 | (simp only [Int.reduceToNat] at ho7; rw [← Ny235.out] at ho7)); have HO237 := Aside0.mk (Kd.R_lower (Kd.R_new' ho7 (Kd.R_lt HO_5.out)) (below_size zB)); replace HO_5 := Aside0.mk (Kd.R_elder' zR (Kd.R_base ho7) hb); replace HB := Aside0.mk (below_step zB hb); clear hb ho7))
        go_loopg [6, 7] k1 (fun kq v6 v7 w' => ∃ (x6_2 : List ByteArray) (x7_2 : Int), v7 = .int .i64 x7_2 ∧ Aside0 (spec_l01Words.l1 kq a0 x1_1 x5_1 x6_2 x7_2 = some r) ∧ Aside0 (kq ≤ k1) ∧ Aside0 (Kd.R Kd.string 9 w' w.heap.size (fun k_ => some k_ ≠ (v6 : Value).ownBlock) u5 x5_1) ∧ Aside0 (Kd.R Kd.string 9 w' w.heap.size (fun k_ => some k_ ≠ (u5 : Value).ownBlock) v6 x6_2) ∧ Aside0 (Below w.heap.size w w'))
        case atStart => exact ⟨(y235), (0), (by first | rfl | (simp; done) | (simp [*]; done)), H', ⟨Nat.le_refl _⟩, ⟨by (with_reducible repeat (first | apply Kd.R_alloc | apply Kd.R_drewN | apply Kd.R_drew)); exact Kd.R_mono HO_5.out (fun _ hk => hk.2)⟩, ⟨by (with_reducible repeat (first | apply Kd.R_alloc | apply Kd.R_drewN | apply Kd.R_drew)); exact Kd.R_mono HO237.out (fun _ hk => hk.2)⟩, ⟨zB⟩⟩
        case round =>
          clear H'
          try clear c1
          try clear p2
          try clear c5
          try clear c5b0
          try clear p2
          obtain ⟨x6_2, x7_2, rfl, HA, HK2, HO_5, HO_6, HB⟩ := hrel
          cases gk with
          | zero => exact absurd HA.out (by simp [spec_l01Words.l1])
          | succ k2 =>
            have H := HA.out
            clear HA
            simp only [spec_l01Words.l1] at H
            by_cases c8 : x7_2 < (x5_1.length : Int)
            ·rw [if_pos c8] at H
             have c8b0 : decide (x7_2 < (x5_1.length : Int)) = true := decide_eq_true c8
             clear c8
             have H' := Aside0.mk H
             clear H
             obtain ⟨Ao9, co9, eo9⟩ := Kd.R_slice HO_5.out
             subst eo9
             go_wp2
             go_loopg [6, 8] k2 (fun kq v6 v8 w' => ∃ (x6_3 : List ByteArray) (x8_3 : Int), v8 = .int .i64 x8_3 ∧ Aside0 (spec_l01Words.l2 kq a0 x1_1 x5_1 x6_3 x7_2 x8_3 = some r) ∧ Aside0 (kq ≤ k2) ∧ Aside0 (Kd.R Kd.string 9 w' w.heap.size (fun k_ => some k_ ≠ (v6 : Value).ownBlock) (.slice Ao9 x5_1.length co9) x5_1) ∧ Aside0 (Kd.R Kd.string 9 w' w.heap.size (fun k_ => some k_ ≠ ((.slice Ao9 x5_1.length co9) : Value).ownBlock) v6 x6_3) ∧ Aside0 (Below w.heap.size w w'))
             case atStart => exact ⟨(x6_2), (0), (by first | rfl | (simp; done) | (simp [*]; done)), H', ⟨Nat.le_refl _⟩, ⟨zR⟩, ⟨zR⟩, ⟨zB⟩⟩
             case round =>
              clear H'
              try clear c1
              try clear p2
              try clear c5
              try clear c5b0
              try clear c8
              try clear c8b0
              try clear p2
              obtain ⟨x6_3, x8_3, rfl, HA, HK3, HO_5, HO_6, HB⟩ := hrel
              cases gk with
              | zero => exact absurd HA.out (by simp [spec_l01Words.l2])
              | succ k3 =>
               have H := HA.out
               clear HA
               simp only [spec_l01Words.l2] at H
               by_cases c10 : x8_3 < a0
               ·rw [if_pos c10] at H
                have c10b0 : decide (x8_3 < a0) = true := decide_eq_true c10
                clear c10
                by_cases c11 : 0 ≤ x7_2
                ·rw [if_pos c11] at H
                 have c11b0 : decide (0 ≤ x7_2) = true := decide_eq_true c11
                 clear c11
                 by_cases c12 : x7_2 < (x5_1.length : Int)
                 ·rw [if_pos c12] at H
                  have c12b0 : decide (x7_2 < (x5_1.length : Int)) = true := decide_eq_true c12
                  clear c12
                  obtain ⟨y239, hy239⟩ : ∃ y_ : List Int, y_ = (([(wrap64 (48 + x8_3)) % 256] : List Int)) := ⟨_, rfl⟩
                  replace H : (if (rdOf ByteArray.empty x5_1 x7_2).size + (strOfNums y239).size ≤ 9223372036854775807 then (if x6_3.length < 8796093022208 then (spec_l01Words.l2 k3 a0 x1_1 x5_1 (x6_3 ++ [(rdOf ByteArray.empty x5_1 x7_2) ++ (strOfNums y239)]) x7_2 (wrap64 (x8_3 + 1))) else (none)) else (none)) = some r := by first | (rw [hy239]; with_reducible exact H) | (have H2_ := (Option.bind_some _ _).symm.trans H; rw [hy239]; with_reducible exact H2_) | (have H2_ := (Option.bind_some _ _).symm.trans H; with_reducible exact H2_) | with_reducible exact H | (rw [hy239]; exact H) | exact H
                  have Ny239 := Aside0.mk hy239
                  clear hy239
                  by_cases c13 : (rdOf ByteArray.empty x5_1 x7_2).size + (strOfNums y239).size ≤ 9223372036854775807
                  ·rw [if_pos c13] at H
                   have c13b0 := eq_true c13
                   have c13b1 : decide ((rdOf ByteArray.empty x5_1 x7_2).size + (strOfNums y239).size ≤ 9223372036854775807) = true := decide_eq_true c13
                   try have c13b2 : (9223372036854775807 < (rdOf ByteArray.empty x5_1 x7_2).size + (strOfNums y239).size) = False := eq_false (Nat.not_lt.2 c13)
                   by_cases c14 : x6_3.length < 8796093022208
                   ·rw [if_pos c14] at H
                    have LMc14 := Aside0.mk c14
                    clear c14
                    obtain ⟨y242, hy242⟩ : ∃ y_ : List ByteArray, y_ = (x6_3 ++ [(rdOf ByteArray.empty x5_1 x7_2) ++ (strOfNums y239)]) := ⟨_, rfl⟩
                    replace H : (spec_l01Words.l2 k3 a0 x1_1 x5_1 y242 x7_2 (wrap64 (x8_3 + 1))) = some r := by first | (rw [hy242]; with_reducible exact H) | (have H2_ := (Option.bind_some _ _).symm.trans H; rw [hy242]; with_reducible exact H2_) | (have H2_ := (Option.bind_some _ _).symm.trans H; with_reducible exact H2_) | with_reducible exact H | (rw [hy242]; exact H) | exact H
                    have Ny242 := Aside0.mk hy242
                    clear hy242
                    have H' := Aside0.mk H
                    clear H
                    try go_wp2
                    replace HO_5 := Aside0.mk (Kd.R_drew HO_5.out)
                    replace HO_6 := Aside0.mk (Kd.R_drew HO_6.out)
                    replace HB := Aside0.mk (below_drew1 HB.out)
                    have p238 : 0 ≤ (x7_2 : Int) := zD
                    have q238 : x7_2 < (x5_1.length : Int) := zD
                    obtain ⟨ad238, e238, hx238_0⟩ := Kd.at_string (Kd.R_reads' HO_5.out).2.2 x7_2 p238 q238
                    cases e238
                    replace p238 := eq_true p238
                    replace q238 := eq_true q238
                    refine start_ (n := 14) (S := fun w' => w'.cell? (ad238.add (x7_2).toNat) = some (.string (rdOf ByteArray.empty x5_1 x7_2))) (ds := [11, 12]) #[false, false, false, false, false, false, false, false, false, false, false, false, false, false] (by kernel_rfl) rfl rfl (hx238_0) (fun hHeld => ?_); refine with_tabW spec_l01Words.tab11 spec_l01Words.bits11 (fun HT_ HW_ => ?_)
                    generalize wr.drew = w15 at HO_5 HO_6 HB hx238_0 hHeld ⊢
                    refine zP 0 (N := some 26) (h := ?_)
                    refine zP 1 (N := some 27) (h := ?_)
                    refine zP 2 (N := some 28) (h := ?_)
                    refine zP 3 (N := some 29) (h := ?_)
                    refine zP 5 (N := some 31) (h := ?_)
                    refine zP 6 (N := some 32) (h := ?_)
                    refine zP 7 (N := some 33) (h := ?_)
                    refine take_ (i := 4) (N := some 30) (v := ?_) (a' := ?_) #[true, true, true, true, true, true, true, true, false, false, false, false, false, false] rfl rfl (take_ofW HT_.out HW_.out (by kernel_rfl)) (fun _ _ _ h => h) (Or.inl ⟨by rfl, ?_⟩) hHeld ?_ ?_
                    rotate_left
                    ·intro w' s0
                     go_simp
                     with_reducible rfl
                    rotate_left
                    ·simp only [Act.put, List.setIfInBounds_toArray, List.set_cons_zero, List.set_cons_succ, i64_w, i32_w]
                     rfl
                    refine one_ (i := 8) (N := some 34) #[true, true, true, true, true, true, true, true, true, false, false, false, false, false] rfl rfl (one_of HT_.out (by kernel_rfl)) (by decide) (fun K hK => ?_)
                    refine Kd.R_lit_step (Kd.int .u8) _ 5 ?hg (N := 34) ?hd (xs := ([(wrap64 (48 + x8_3)) % 256] : List Int)) (inner := [.int .u8 ((wrap64 (48 + x8_3)) % 256)]) (ok := fun _ => True) (okp := fun _ => True) ?hr ?hp (fun _ hk => hk) trivial (Below.refl _ _) (Nat.le_refl _) (by simp) ?_; (case hd => rfl); (case hg => rfl); (case hr => first | (go_simp; done) | (go_simp; rfl)); (case hp => exact (Reps.one (show Kd.M (Kd.int .u8) _ _ _ ((wrap64 (48 + x8_3)) % 256) [.int .u8 ((wrap64 (48 + x8_3)) % 256)] from rfl) (Reps.none _ _)))
                    intro v240 w16 ho17 hb hg_ hnew_
                    have HS0_ := (hb.cell (World.block_lt_of_cell? _ _ (hHeld))).trans (hHeld)
                    clear hg_ hnew_
                    (first | rw [← Ny239.out] at ho17 | (simp only [Int.reduceToNat] at ho17; rw [← Ny239.out] at ho17))
                    have n0_ := Aside0.mk (Kd.R_below (by (with_reducible repeat (first | apply Kd.R_alloc | apply Kd.R_drewN | apply Kd.R_drew)); exact HO_5.out) hb)
                    have n1_ := Aside0.mk (Kd.R_below (by (with_reducible repeat (first | apply Kd.R_alloc | apply Kd.R_drewN | apply Kd.R_drew)); exact HO_6.out) hb)
                    have n2_ := Aside0.mk (Kd.R_lower ho17 (below_size zB))
                    have n3_ := Aside0.mk (below_step zB hb)
                    clear HO_5
                    clear HO_6
                    clear HB
                    have HO_5 := n0_
                    have HO_6 := n1_
                    have HO241 := n2_
                    have HB := n3_
                    clear n0_ n1_ n2_ n3_
                    clear hb ho17
                    refine hK.out _ _ (HS0_) (fun hHeld => ?_)
                    clear hK K
                    refine norm_ (a' := ?_) ?_ ?_
                    rotate_left
                    ·show Act.put _ (some 34) _ = _
                     simp only [Act.put, List.setIfInBounds_toArray, List.set_cons_zero, List.set_cons_succ, i64_w, i32_w]
                     rfl
                    refine one_ (i := 9) (N := some 35) #[true, true, true, true, true, true, true, true, true, true, false, false, false, false] rfl rfl (one_of HT_.out (by kernel_rfl)) (by decide) (fun K hK => ?_)
                    have hcv18 := own_string (P := Try.prog) Try.underlying112 Try.underlying5 Try.underlying9 (Kd.own_of_R HO241.out)
                    refine value_ (w1 := ?_) (v := ?_) (by rfl) rfl ?_ ?_
                    rotate_left 2
                    ·go_simp
                     constructor
                     ·rfl
                     ·rfl
                    clear hcv18
                    refine hK.out _ _ (hHeld) (fun hHeld => ?_)
                    clear hK K
                    refine norm_ (a' := ?_) ?_ ?_
                    rotate_left
                    ·show Act.put _ (some 35) _ = _
                     simp only [Act.put, List.setIfInBounds_toArray, List.set_cons_zero, List.set_cons_succ, i64_w, i32_w]
                     rfl
                    refine zP 10 (N := some 36) (h := ?_)
                    refine last_ (i := 11) (N := some 37) #[true, true, true, true, true, true, true, true, true, true, true, true, false, false] rfl rfl (one_of HT_.out (by kernel_rfl)) (by decide) (fun K hK => ?_)
                    refine value_ (w1 := ?_) (v := ?_) (by rfl) rfl ?_ ?_
                    rotate_left 2
                    ·go_simp
                     constructor
                     ·rfl
                     ·rfl
                    refine hK.out _ _ ?_
                    clear hK K
                    refine norm_ (a' := ?_) ?_ ?_
                    rotate_left
                    ·show Act.put _ (some 37) _ = _
                     simp only [Act.put, List.setIfInBounds_toArray, List.set_cons_zero, List.set_cons_succ, i64_w, i32_w]
                     rfl
                    refine last_ (i := 12) (N := some 38) #[true, true, true, true, true, true, true, true, true, true, true, true, true, false] rfl rfl (one_of HT_.out (by kernel_rfl)) (by decide) (fun K hK => ?_)
                    refine Kd.R_append_step Kd.string (w0 := w) w.heap.size (by rfl) (.tmp 26) (.tmp 37) 151 9 (.string ⟨#[]⟩) 16 rfl Try.underlying151 info9 rfl (by decide) (by omega) u6 x6_3 ((rdOf ByteArray.empty x5_1 x7_2) ++ (strOfNums y239)) [.string ((rdOf ByteArray.empty x5_1 x7_2) ++ (strOfNums y239))] (fun k_ => some k_ ≠ (.slice (some ad238) x5_1.length co9 : Value).ownBlock) (fun _ => False) rfl rfl ?aP (fun _ hk => hk.elim) ?aF ?aO ?aB ?aS ?aL ?_
                    (case aP => exact rfl)
                    (case aB => exact zB)
                    (case aF => exact (fun k_ hk => Kd.fresh' (Kd.R_lt (by (with_reducible repeat (first | apply Kd.R_alloc | apply Kd.R_drewN | apply Kd.R_drew)); exact HO_5.out)) k_ hk))
                    (case aO => exact zR)
                    (case aS => exact (below_size zB))
                    (case aL => have := LMc14.out; omega)
                    intro v243 w19 ho hb hg hat
                    rw [← Ny242.out] at ho
                    have n0_ := Aside0.mk (Kd.R_after (ok := (fun _ => True)) (by (with_reducible repeat (first | apply Kd.R_alloc | apply Kd.R_drewN | apply Kd.R_drew)); exact Kd.R_mono HO_5.out (fun _ hk => ⟨trivial, hk⟩)) hg hat)
                    have n1_ := Aside0.mk (Kd.R_over' zR (Kd.R_typed zR) (by decide) hg)
                    have n2_ := Aside0.mk (hb)
                    have n3_ := Aside0.mk (ho)
                    clear HO_5
                    clear HO241
                    clear HB
                    clear HO_6
                    have HO_5 := n0_
                    have HO241 := n1_
                    have HB := n2_
                    have HO244 := n3_
                    clear n0_ n1_ n2_ n3_
                    clear ho hb hg hat
                    refine hK.out _ _ ?_
                    clear hK K
                    refine norm_ (a' := ?_) ?_ ?_
                    rotate_left
                    ·show Act.put _ (some 38) _ = _
                     simp only [Act.put, List.setIfInBounds_toArray, List.set_cons_zero, List.set_cons_succ, i64_w, i32_w]
                     rfl
                    refine zP 13 (N := some 6) (h := ?_)
                    refine done_ (done_of HT_.out (by kernel_rfl)) ?_
                    try go_wp2
                    go_roundg k3
                    case measure => have := HK1.out; have := HK2.out; have := HK3.out; omega
                    case rel => exact ⟨(y242), (wrap64 (x8_3 + 1)), (by first | rfl | (simp; done) | (simp [*]; done)), H', ⟨by have := HK1.out; have := HK2.out; have := HK3.out; omega⟩, ⟨by (with_reducible repeat (first | apply Kd.R_alloc | apply Kd.R_drewN | apply Kd.R_drew)); exact Kd.R_mono HO_5.out (fun _ hk => hk.2)⟩, ⟨zR⟩, ⟨zB⟩⟩
                   ·rw [if_neg c14] at H
                    exact absurd H (by simp)
                  ·rw [if_neg c13] at H
                   exact absurd H (by simp)
                 ·rw [if_neg c12] at H
                  exact absurd H (by simp)
                ·rw [if_neg c11] at H
                 exact absurd H (by simp)
               ·rw [if_neg c10] at H
                have c10b0 : decide (x8_3 < a0) = false := decide_eq_false c10
                clear c10
                have H' := Aside0.mk H
                clear H
                go_wp2
                go_roundg k3
                case measure => have := HK1.out; have := HK2.out; have := HK3.out; omega
                case rel => exact ⟨(x6_3), (wrap64 (x7_2 + 1)), (by first | rfl | (simp; done) | (simp [*]; done)), H', ⟨by have := HK1.out; have := HK2.out; have := HK3.out; omega⟩, ⟨zR⟩, ⟨zR⟩, ⟨zB⟩⟩
            ·rw [if_neg c8] at H
             have c8b0 : decide (x7_2 < (x5_1.length : Int)) = false := decide_eq_false c8
             clear c8
             have H' := Aside0.mk H
             clear H
             obtain ⟨Ao20, co20, eo20⟩ := Kd.R_slice HO_5.out
             subst eo20
             go_wp2
             go_roundg k2
             case measure => have := HK1.out; have := HK2.out; omega
             case rel => exact ⟨(wrap64 (x1_1 - 1)), (x6_2), (by first | rfl | (simp; done) | (simp [*]; done)), H', ⟨by have := HK1.out; have := HK2.out; omega⟩, ⟨by (with_reducible repeat (first | apply Kd.R_alloc | apply Kd.R_drewN | apply Kd.R_drew)); exact Kd.R_mono HO_6.out (fun _ hk => trivial)⟩, ⟨zB⟩⟩
      · rw [if_neg c5] at H
        have c5b0 : decide (0 < x1_1) = false := decide_eq_false c5
        clear c5
        obtain rfl := Option.some.inj H
        go_wp2
        go_ret
        exact ⟨_, by first | rfl | (simp [errW_none, errW_some] <;> rfl) | (simp [*, errW_none, errW_some] <;> rfl), zR, zB⟩

/-! ### spec_l07Factor: function 144 -/
def spec_l07Factor.l0 : Nat → List (List Int) → ByteArray → ByteArray → Int → Int → Option (Int)
  | 0, _, _, _, _, _ => none
  | k + 1, x0, x1, x2, x7, x8 => if x8 < (x1.size : Int) then (if 0 ≤ x8 then (if 0 ≤ (((bt x1 x8) - 48) % 256) then (if (((bt x1 x8) - 48) % 256) < (x0.length : Int) then (if x8 < (x2.size : Int) then (if 0 ≤ (((bt x2 x8) - 48) % 256) then (if (((bt x2 x8) - 48) % 256) < ((rd_L6 x0 (((bt x1 x8) - 48) % 256)).length : Int) then (spec_l07Factor.l0 k x0 x1 x2 (wrap64 (x7 * (rd (rd_L6 x0 (((bt x1 x8) - 48) % 256)) (((bt x2 x8) - 48) % 256)))) (wrap64 (x8 + 1))) else (none)) else (none)) else (none)) else (none)) else (none)) else (none)) else (some x7)
def spec_l07Factor.f (k : Nat) (l0 : List (List Int)) (a1 : ByteArray) (a2 : ByteArray) : Option (Int) := spec_l07Factor.l0 k l0 a1 a2 1 0
theorem spec_l07Factor.mono_l : ∀ k, (∀ y0 y1 y2 y3 y4, LeO (spec_l07Factor.l0 k y0 y1 y2 y3 y4) (spec_l07Factor.l0 (k + 1) y0 y1 y2 y3 y4))
  | 0 => fun _ _ _ _ _ r h => by simp [spec_l07Factor.l0] at h
  | k + 1 => by
    have ih0 := spec_l07Factor.mono_l k
    · intro y0 y1 y2 y3 y4
      unfold spec_l07Factor.l0
      repeat' first
      | (with_reducible exact ih0 _ _ _ _ _)
      | (with_reducible exact LeO.refl _)
      | (with_reducible exact LeO.none _)
      | (with_reducible refine LeO.ite ?_ ?_)
      | (with_reducible refine LeO.bind ?_ (fun _ => ?_))
theorem spec_l07Factor.mono : ∀ a0 a1 a2 k, LeO (spec_l07Factor.f k a0 a1 a2) (spec_l07Factor.f (k + 1) a0 a1 a2) := by
  intro a0 a1 a2 k
  have ih0 := spec_l07Factor.mono_l k
  unfold spec_l07Factor.f
  repeat' first
      | (with_reducible exact ih0 _ _ _ _ _)
      | (with_reducible exact LeO.refl _)
      | (with_reducible exact LeO.none _)
      | (with_reducible refine LeO.ite ?_ ?_)
      | (with_reducible refine LeO.bind ?_ (fun _ => ?_))
set_option maxHeartbeats 8000000 in
set_option maxRecDepth 100000 in
theorem spec_l07Factor.calls (k : Nat) (A0 : Option Addr) (c0 : Nat) (l0 : List (List Int)) (a1 : ByteArray) (a2 : ByteArray) (r : Int) (w : World) (hr0 : Kd.C (Kd.slice 2 (Kd.int .i64)) w A0 l0.length l0) (hc0 : l0.length ≤ c0) (h : spec_l07Factor.f k l0 a1 a2 = some r) :
    Calls Try.prog 144 #[.slice A0 l0.length c0, .string a1, .string a2] w fun e w' => e = .returned (.int .i64 r) ∧ Drawn0 w w' := by
  have HR0 := Aside0.mk hr0
  have HC0 := Aside0.mk hc0
  clear hr0 hc0
  have H : (spec_l07Factor.l0 k l0 a1 a2 1 0) = some r := h
  clear h
  have H' := Aside0.mk H
  clear H
  go_enter Try.func144, Try.ntmps144
  go_wp2
  repeat (go_quiet (fail); try go_wp2)
  go_loopg [7, 8] k (fun kq v7 v8 w' => ∃ (x7_1 : Int) (x8_1 : Int), v7 = .int .i64 x7_1 ∧ v8 = .int .i64 x8_1 ∧ Aside0 (spec_l07Factor.l0 kq l0 a1 a2 x7_1 x8_1 = some r) ∧ Aside0 (kq ≤ k) ∧ Drawn0 w w')
  case atStart => exact ⟨(1), (0), (by first | rfl | (simp; done) | (simp [*]; done)), (by first | rfl | (simp; done) | (simp [*]; done)), H', ⟨Nat.le_refl _⟩, by repeat (first | exact Drawn0.refl _ | apply Drawn0.step)⟩
  case round =>
    clear H'
    try clear c1
    try clear p2
    obtain ⟨x7_1, x8_1, rfl, rfl, HA, HK1, ⟨m1, rfl⟩⟩ := hrel
    cases gk with
    | zero => exact absurd HA.out (by simp [spec_l07Factor.l0])
    | succ k1 =>
      have H := HA.out
      clear HA
      simp only [spec_l07Factor.l0] at H
      by_cases c4 : x8_1 < (a1.size : Int)
      · rw [if_pos c4] at H
        have c4b0 : decide (x8_1 < (a1.size : Int)) = true := decide_eq_true c4
        clear c4
        by_cases c5 : 0 ≤ x8_1
        · rw [if_pos c5] at H
          have c5b0 : decide (0 ≤ x8_1) = true := decide_eq_true c5
          clear c5
          obtain ⟨ji7, hji7⟩ : ∃ j_ : Int, (((bt a1 x8_1) - 48) % 256) = j_ := ⟨_, rfl⟩
          replace H : (if 0 ≤ (ji7) then (if (ji7) < (l0.length : Int) then (if x8_1 < (a2.size : Int) then (if 0 ≤ (((bt a2 x8_1) - 48) % 256) then (if (((bt a2 x8_1) - 48) % 256) < ((rd_L6 l0 (ji7)).length : Int) then (spec_l07Factor.l0 k1 l0 a1 a2 (wrap64 (x7_1 * (rd (rd_L6 l0 (ji7)) (((bt a2 x8_1) - 48) % 256)))) (wrap64 (x8_1 + 1))) else (none)) else (none)) else (none)) else (none)) else (none)) = some r := by first | (rw [hji7] at H; exact H) | (simp only [hji7] at H ⊢; exact H)
          by_cases c8 : 0 ≤ (ji7)
          · rw [if_pos c8] at H
            have c8b0 : decide (0 ≤ (ji7)) = true := decide_eq_true c8
            clear c8
            by_cases c9 : (ji7) < (l0.length : Int)
            ·rw [if_pos c9] at H
             have c9b0 : decide ((ji7) < (l0.length : Int)) = true := decide_eq_true c9
             clear c9
             by_cases c10 : x8_1 < (a2.size : Int)
             ·rw [if_pos c10] at H
              have c10b0 : decide (x8_1 < (a2.size : Int)) = true := decide_eq_true c10
              clear c10
              obtain ⟨ji12, hji12⟩ : ∃ j_ : Int, (((bt a2 x8_1) - 48) % 256) = j_ := ⟨_, rfl⟩
              replace H : (if 0 ≤ (ji12) then (if (ji12) < ((rd_L6 l0 (ji7)).length : Int) then (spec_l07Factor.l0 k1 l0 a1 a2 (wrap64 (x7_1 * (rd (rd_L6 l0 (ji7)) (ji12)))) (wrap64 (x8_1 + 1))) else (none)) else (none)) = some r := by first | (rw [hji12] at H; exact H) | (simp only [hji12] at H ⊢; exact H)
              by_cases c13 : 0 ≤ (ji12)
              ·rw [if_pos c13] at H
               have c13b0 : decide (0 ≤ (ji12)) = true := decide_eq_true c13
               clear c13
               by_cases c14 : (ji12) < ((rd_L6 l0 (ji7)).length : Int)
               ·rw [if_pos c14] at H
                have c14b0 : decide ((ji12) < ((rd_L6 l0 (ji7)).length : Int)) = true := decide_eq_true c14
                clear c14
                have H' := Aside0.mk H
                clear H
                have p6 : 0 ≤ (x8_1 : Int) := zD
                have q6 : x8_1 < (a1.size : Int) := zD
                have hx6 := bt_at a1 x8_1
                replace p6 := eq_true p6
                replace q6 := eq_true q6
                have p245 : 0 ≤ ((ji7) : Int) := zD
                have q245 : (ji7) < (l0.length : Int) := zD
                obtain ⟨ad245, A245_0, c245_0, e245, hx245_0, hl245_0, hi245_0⟩ := at_L6 HR0.out (ji7) p245 q245
                cases e245
                have HR245_0 := Aside0.mk hi245_0
                have HC245_0 := Aside0.mk hl245_0
                clear hi245_0 hl245_0
                replace p245 := eq_true p245
                replace q245 := eq_true q245
                have p11 : 0 ≤ (x8_1 : Int) := zD
                have q11 : x8_1 < (a2.size : Int) := zD
                have hx11 := bt_at a2 x8_1
                replace p11 := eq_true p11
                replace q11 := eq_true q11
                have p246 : 0 ≤ ((ji12) : Int) := zD
                have q246 : (ji12) < ((rd_L6 l0 (ji7)).length : Int) := zD
                obtain ⟨ad246, e246, hx246_0⟩ := Kd.at_int HR245_0.out (ji12) p246 q246
                cases e246
                replace p246 := eq_true p246
                replace q246 := eq_true q246
                go_wp2
                repeat (go_quiet (fail); try go_wp2)
                go_roundg k1
                case measure => have := HK1.out; omega
                case rel => exact ⟨(wrap64 (x7_1 * (rd (rd_L6 l0 (ji7)) (ji12)))), (wrap64 (x8_1 + 1)), (by first | rfl | (simp; done) | (simp only [← hji7, ← hji12] <;> (first | rfl | simp)) | (simp [*]; done)), (by first | rfl | (simp; done) | (simp [*]; done)), H', ⟨by have := HK1.out; omega⟩, by repeat (first | exact Drawn0.refl _ | apply Drawn0.step)⟩
               ·rw [if_neg c14] at H
                exact absurd H (by simp)
              ·rw [if_neg c13] at H
               exact absurd H (by simp)
             ·rw [if_neg c10] at H
              exact absurd H (by simp)
            ·rw [if_neg c9] at H
             exact absurd H (by simp)
          · rw [if_neg c8] at H
            exact absurd H (by simp)
        · rw [if_neg c5] at H
          exact absurd H (by simp)
      · rw [if_neg c4] at H
        have c4b0 : decide (x8_1 < (a1.size : Int)) = false := decide_eq_false c4
        clear c4
        obtain rfl := Option.some.inj H
        go_wp2
        repeat (go_quiet (fail); try go_wp2)
        go_ret
        exact ⟨by first | rfl | (simp; done) | (simp [*]; done), by repeat (first | exact Drawn0.refl _ | apply Drawn0.step)⟩

end Go.Proofs.Ytcklefgkbddlhaa.P
