/- What a call of each Go function named below comes to is what the plain Lean function beside it says. Made by a program of this session out of the print of the translation; Lean checks it. -/
import Derived.Test.YtcklefgkbddlhaaPx0
import Derived.Test.YtcklefgkbddlhaaPx10
namespace Go.Proofs.Ytcklefgkbddlhaa.P
open Go.RowKit Go.Proofs.YtcklefgkbddlhaaW.PrintWords Go.Proofs.YtcklefgkbddlhaaW.PrintLast Go.Proofs.YtcklefgkbddlhaaW.PrintMore
attribute [local go_sem] max2_int min2_int max_two min_two max_three min_three max_four min_four   -- for this text's walks alone
set_option linter.unusedVariables false
set_option linter.unusedSimpArgs false


/-! ### impl_pathOfWord: function 74 -/
def impl_pathOfWord.l0 : Nat → Int → List (List Int) → List Int → Int → Int → Option ((List (List Int)))
  | 0, _, _, _, _, _ => none
  | k + 1, x0, x5, x9, x10, x11 => if x11 < x10 then (if 0 ≤ x11 then (if x11 < (x9.length : Int) then (if 0 ≤ x0 then (if (x0 : Int).toNat ≤ 35184372088832 then ((some (List.replicate (x0 : Int).toNat 0 : List Int)).bind fun y391 => ((impl_size.f (rd x9 x11)).bind fun t394 => ((impl_size.f (rd x9 x11)).bind fun t395 => (if t395 = 0 then (none) else (if 0 ≤ (wrap64 (t394 - 1)) then (if (wrap64 (t394 - 1)) < (y391.length : Int) then (if x5.length < 5864062014805 then (impl_pathOfWord.l0 k x0 (x5 ++ [(y391.set ((wrap64 (t394 - 1)) : Int).toNat (wrap64 (Int.tdiv (rd x9 x11) t395)))]) x9 x10 (wrap64 (x11 + 1))) else (none)) else (none)) else (none)))))) else (none)) else (none)) else (none)) else (none)) else (some x5)
def impl_pathOfWord.f (k : Nat) (a0 : Int) (l1 : List Int) : Option ((List (List Int))) := impl_pathOfWord.l0 k a0 ([] : List (List Int)) l1 (l1.length : Int) 0
theorem impl_pathOfWord.mono_l : ∀ k, (∀ y0 y1 y2 y3 y4, LeO (impl_pathOfWord.l0 k y0 y1 y2 y3 y4) (impl_pathOfWord.l0 (k + 1) y0 y1 y2 y3 y4))
  | 0 => fun _ _ _ _ _ r h => by simp [impl_pathOfWord.l0] at h
  | k + 1 => by
    have ih0 := impl_pathOfWord.mono_l k
    · intro y0 y1 y2 y3 y4
      unfold impl_pathOfWord.l0
      repeat' first
      | (with_reducible exact ih0 _ _ _ _ _)
      | (with_reducible exact LeO.refl _)
      | (with_reducible exact LeO.none _)
      | (with_reducible refine LeO.ite ?_ ?_)
      | (with_reducible refine LeO.bind ?_ (fun _ => ?_))
theorem impl_pathOfWord.mono : ∀ a0 a1 k, LeO (impl_pathOfWord.f k a0 a1) (impl_pathOfWord.f (k + 1) a0 a1) := by
  intro a0 a1 k
  have ih0 := impl_pathOfWord.mono_l k
  unfold impl_pathOfWord.f
  repeat' first
      | (with_reducible exact ih0 _ _ _ _ _)
      | (with_reducible exact LeO.refl _)
      | (with_reducible exact LeO.none _)
      | (with_reducible refine LeO.ite ?_ ?_)
      | (with_reducible refine LeO.bind ?_ (fun _ => ?_))
set_option maxHeartbeats 8000000 in
set_option maxRecDepth 100000 in
theorem impl_pathOfWord.calls (k : Nat) (a0 : Int) (A1 : Option Addr) (c1 : Nat) (l1 : List Int) (r : List (List Int)) (w : World) (hr1 : Kd.C (Kd.int .i64) w A1 l1.length l1) (hc1 : l1.length ≤ c1) (h : impl_pathOfWord.f k a0 l1 = some r) :
    Calls Try.prog 74 #[.int .i64 a0, .slice A1 l1.length c1] w fun e w' => ∃ v0_ : Value, e = .returned (v0_) ∧ Kd.S (Kd.slice 2 (Kd.int .i64)) 48 w' w.heap.size (fun _ => True) v0_ r ∧ Below w.heap.size w w' := by
  have HR1 := Aside0.mk hr1
  have HC1 := Aside0.mk hc1
  clear hr1 hc1
  have HB := Aside0.mk (Below.refl w.heap.size w)
  have H : (impl_pathOfWord.l0 k a0 ([] : List (List Int)) l1 (l1.length : Int) 0) = some r := h
  clear h
  have H' := Aside0.mk H
  clear H
  go_enter Try.func74, Try.ntmps74
  go_wp2
  go_loopg [5, 11] k (fun kq v5 v11 w' => ∃ (x5_1 : List (List Int)) (x11_1 : Int), v11 = .int .i64 x11_1 ∧ Aside0 (impl_pathOfWord.l0 kq a0 x5_1 l1 (l1.length : Int) x11_1 = some r) ∧ Aside0 (kq ≤ k) ∧ Aside0 (Kd.S (Kd.slice 2 (Kd.int .i64)) 48 w' w.heap.size (fun _ => True) v5 x5_1) ∧ Aside0 (Below w.heap.size w w'))
  case atStart => exact ⟨(([] : List (List Int))), (0), (by first | rfl | (simp; done) | (simp [*]; done)), H', ⟨Nat.le_refl _⟩, ⟨by first | exact Kd.S_nil _ _ _ _ _ | exact Kd.N_nil _ _ _ _ _ | exact Kd.V_nil _ _ _ _ _ | exact Kd.Q_nil _ _ _ _ _ | exact Kd.R_nil _ _ _ _ _⟩, ⟨zB⟩⟩
  case round =>
    clear H'
    obtain ⟨x5_1, x11_1, rfl, HA, HK1, HO_5, HB⟩ := hrel
    cases gk with
    | zero => exact absurd HA.out (by simp [impl_pathOfWord.l0])
    | succ k1 =>
      have H := HA.out
      clear HA
      simp only [impl_pathOfWord.l0] at H
      by_cases c3 : x11_1 < (l1.length : Int)
      · rw [if_pos c3] at H
        have c3b0 : decide (x11_1 < (l1.length : Int)) = true := decide_eq_true c3
        clear c3
        by_cases c4 : 0 ≤ x11_1
        · rw [if_pos c4] at H
          have c4b0 : decide (0 ≤ x11_1) = true := decide_eq_true c4
          clear c4
          by_cases c5 : x11_1 < (l1.length : Int)
          · rw [if_pos c5] at H
            have c5b0 : decide (x11_1 < (l1.length : Int)) = true := decide_eq_true c5
            clear c5
            by_cases c6 : 0 ≤ a0
            ·rw [if_pos c6] at H
             have c6b0 := eq_true c6
             have c6b1 : decide (0 ≤ a0) = true := decide_eq_true c6
             clear c6
             by_cases c7 : (a0 : Int).toNat ≤ 35184372088832
             ·rw [if_pos c7] at H
              have c7b0 := eq_true c7
              have c7b1 : decide ((a0 : Int).toNat ≤ 35184372088832) = true := decide_eq_true c7
              clear c7
              obtain ⟨y391, hy391⟩ : ∃ y_ : List Int, y_ = (List.replicate (a0 : Int).toNat 0) := ⟨_, rfl⟩
              replace H : ((impl_size.f (rd l1 x11_1)).bind fun t394 => ((impl_size.f (rd l1 x11_1)).bind fun t395 => (if t395 = 0 then (none) else (if 0 ≤ (wrap64 (t394 - 1)) then (if (wrap64 (t394 - 1)) < (y391.length : Int) then (if x5_1.length < 5864062014805 then (impl_pathOfWord.l0 k1 a0 (x5_1 ++ [(y391.set ((wrap64 (t394 - 1)) : Int).toNat (wrap64 (Int.tdiv (rd l1 x11_1) t395)))]) l1 (l1.length : Int) (wrap64 (x11_1 + 1))) else (none)) else (none)) else (none))))) = some r := by first | (rw [hy391]; with_reducible exact H) | (have H2_ := (Option.bind_some _ _).symm.trans H; rw [hy391]; with_reducible exact H2_) | (have H2_ := (Option.bind_some _ _).symm.trans H; with_reducible exact H2_) | with_reducible exact H | (rw [hy391]; exact H) | exact H
              have Ny391 := Aside0.mk hy391
              clear hy391
              replace H := Option.bind_eq_some_iff.mp H
              obtain ⟨t394, A80, H⟩ := H
              replace H : ((impl_size.f (rd l1 x11_1)).bind fun t395 => (if t395 = 0 then (none) else (if 0 ≤ (wrap64 (t394 - 1)) then (if (wrap64 (t394 - 1)) < (y391.length : Int) then (if x5_1.length < 5864062014805 then (impl_pathOfWord.l0 k1 a0 (x5_1 ++ [(y391.set ((wrap64 (t394 - 1)) : Int).toNat (wrap64 (Int.tdiv (rd l1 x11_1) t395)))]) l1 (l1.length : Int) (wrap64 (x11_1 + 1))) else (none)) else (none)) else (none)))) = some r := H
              have A8 := Aside0.mk A80
              clear A80
              replace H := Option.bind_eq_some_iff.mp H
              obtain ⟨t395, A90, H⟩ := H
              replace H : (if t395 = 0 then (none) else (if 0 ≤ (wrap64 (t394 - 1)) then (if (wrap64 (t394 - 1)) < (y391.length : Int) then (if x5_1.length < 5864062014805 then (impl_pathOfWord.l0 k1 a0 (x5_1 ++ [(y391.set ((wrap64 (t394 - 1)) : Int).toNat (wrap64 (Int.tdiv (rd l1 x11_1) t395)))]) l1 (l1.length : Int) (wrap64 (x11_1 + 1))) else (none)) else (none)) else (none))) = some r := H
              have A9 := Aside0.mk A90
              clear A90
              by_cases c10 : t395 = 0
              ·rw [if_pos c10] at H
               exact absurd H (by simp)
              ·rw [if_neg c10] at H
               have c10b0 : (t395 == 0) = false := beq_eq_false_iff_ne.mpr c10
               have c10b1 : (t395 != 0) = true := bne_iff_ne.mpr c10
               obtain ⟨ji11, hji11⟩ : ∃ j_ : Int, (wrap64 (t394 - 1)) = j_ := ⟨_, rfl⟩
               replace H : (if 0 ≤ (ji11) then (if (ji11) < (y391.length : Int) then (if x5_1.length < 5864062014805 then (impl_pathOfWord.l0 k1 a0 (x5_1 ++ [(y391.set ((ji11) : Int).toNat (wrap64 (Int.tdiv (rd l1 x11_1) t395)))]) l1 (l1.length : Int) (wrap64 (x11_1 + 1))) else (none)) else (none)) else (none)) = some r := by first | (rw [hji11] at H; exact H) | (simp only [hji11] at H ⊢; exact H)
               (try rw [hji11] at A8)
               (try rw [hji11] at A9)
               have hji11w : (IntKind.i64.wrap (t394 - 1)) = ji11 := (i64_w _).trans hji11
               by_cases c12 : 0 ≤ (ji11)
               ·rw [if_pos c12] at H
                have c12b0 : decide (0 ≤ (ji11)) = true := decide_eq_true c12
                clear c12
                by_cases c13 : (ji11) < (y391.length : Int)
                ·rw [if_pos c13] at H
                 have c13b0 : decide ((ji11) < (y391.length : Int)) = true := decide_eq_true c13
                 clear c13
                 obtain ⟨y396, hy396⟩ : ∃ y_ : List Int, y_ = (y391.set ((ji11) : Int).toNat (wrap64 (Int.tdiv (rd l1 x11_1) t395))) := ⟨_, rfl⟩
                 replace H : (if x5_1.length < 5864062014805 then (impl_pathOfWord.l0 k1 a0 (x5_1 ++ [y396]) l1 (l1.length : Int) (wrap64 (x11_1 + 1))) else (none)) = some r := by first | (rw [hy396]; with_reducible exact H) | (have H2_ := (Option.bind_some _ _).symm.trans H; rw [hy396]; with_reducible exact H2_) | (have H2_ := (Option.bind_some _ _).symm.trans H; with_reducible exact H2_) | with_reducible exact H | (rw [hy396]; exact H) | exact H
                 have Ny396 := Aside0.mk hy396
                 clear hy396
                 by_cases c15 : x5_1.length < 5864062014805
                 ·rw [if_pos c15] at H
                  have LMc15 := Aside0.mk c15
                  clear c15
                  obtain ⟨y397, hy397⟩ : ∃ y_ : List (List Int), y_ = (x5_1 ++ [y396]) := ⟨_, rfl⟩
                  replace H : (impl_pathOfWord.l0 k1 a0 y397 l1 (l1.length : Int) (wrap64 (x11_1 + 1))) = some r := by first | (rw [hy397]; with_reducible exact H) | (have H2_ := (Option.bind_some _ _).symm.trans H; rw [hy397]; with_reducible exact H2_) | (have H2_ := (Option.bind_some _ _).symm.trans H; with_reducible exact H2_) | with_reducible exact H | (rw [hy397]; exact H) | exact H
                  have Ny397 := Aside0.mk hy397
                  clear hy397
                  have H' := Aside0.mk H
                  clear H
                  have p390 : 0 ≤ (x11_1 : Int) := zD
                  have q390 : x11_1 < (l1.length : Int) := zD
                  obtain ⟨ad390, e390, hx390_0⟩ := Kd.at_int HR1.out x11_1 p390 q390
                  cases e390
                  replace hx390_0 := zH HB hx390_0
                  replace p390 := eq_true p390
                  replace q390 := eq_true q390
                  go_wp2_with (first | ((with_reducible refine gate_dst (N := 16) rfl ?_); refine Kd.R_make (Kd.int .i64) _ 2 rfl (N := 16) rfl 48 _ _ rfl a0 rfl rfl Try.underlying48 (.int .i64 0) 8 info2 rfl (by decide) (by omega) 0 (ok := fun _ => True) (okp := fun _ => True) rfl (fun _ hk => hk) trivial (zD) (Nat.le_trans (Nat.mul_le_mul_right _ (zD : a0.toNat ≤ 35184372088832)) (by omega)) (Below.refl _ _) (Nat.le_refl _) ?_; intro v392 w16 ho17 hb hg_ hnew_; clear hg_ hnew_; (first | rw [← Ny391.out] at ho17 | (simp only [Int.reduceToNat] at ho17; rw [← Ny391.out] at ho17)); have HO393 := Aside0.mk (Kd.R_lower ho17 (below_size zB)); replace HO_5 := Aside0.mk (Kd.S_elder' zS (Kd.R_base ho17) hb); replace HB := Aside0.mk (below_step zB hb); clear hb ho17) | ((with_reducible refine gate_callee (f := 128) rfl ?_); refine goesL_ (some 19) rfl rfl Try.func128 (by kernel_rfl) rfl #[.int .i64 (rd l1 x11_1)] rfl zM ?_; (with_reducible refine (impl_size.calls (rd l1 x11_1) t394 _ A8.out).mono ?_); rintro e w18 ⟨rfl, hb⟩; refine ⟨_, rfl, ?_⟩; replace HO_5 := Aside0.mk (Kd.S_below HO_5.out hb); replace HO393 := Aside0.mk (Kd.R_below HO393.out hb); replace HB := Aside0.mk (below_step zB hb); (try clear hb); (try clear hb2); (try clear hk); (try clear hi)) | ((with_reducible refine gate_callee (f := 128) rfl ?_); refine goesL_ (some 23) rfl rfl Try.func128 (by kernel_rfl) rfl #[.int .i64 (rd l1 x11_1)] rfl zM ?_; (with_reducible refine (impl_size.calls (rd l1 x11_1) t395 _ A9.out).mono ?_); rintro e w19 ⟨rfl, hb⟩; refine ⟨_, rfl, ?_⟩; replace HO_5 := Aside0.mk (Kd.S_below HO_5.out hb); replace HO393 := Aside0.mk (Kd.R_below HO393.out hb); replace HB := Aside0.mk (below_step zB hb); (try clear hb); (try clear hb2); (try clear hk); (try clear hi); have p14 : 0 ≤ ((ji11) : Int) := zD; have q14 : ((ji11) : Int) < ((y391.length : Int) : Int) := zD; obtain ⟨go14, co14, eo14, gb14, gl14, cl14, HG14⟩ := Kd.R_form HO393.out (by omega); (first | cases eo14 | (injection eo14 with ea_ en_ ec_; (first | subst ea_ | (injection ea_ with ea_; subst ea_)); subst ec_; clear en_)); have GB14 := Aside0.mk gb14; have GG14 := Aside0.mk HG14; clear gb14 gl14 HG14; obtain ⟨hx14_0, hf14_0⟩ := Kd.R_celln 0 HO393.out ((ji11) : Int) p14 q14; replace p14 := eq_true p14; replace q14 := eq_true q14; obtain ⟨hy20_, hz20_⟩ := Kd.R_celln 0 HO393.out ((ji11) : Int) (zD) (zD); have HP20 := Kd.R_putg HO393.out ((ji11) : Int) (wrap64 (Int.tdiv (rd l1 x11_1) t395))) | ((with_reducible refine gate_store (t := 2) (p := 25) rfl ?_); refine store_event (t := 2) (p := 25) (v := ?vo_w21) (w1 := (w19.setCell ⟨go14, ((ji11) : Int).toNat, none⟩ (.int .i64 (wrap64 (Int.tdiv (rd l1 x11_1) t395))))) ?hg ?ho ?hn ?hr ?_; (case ho => rfl); (case hg => rfl); (case hn => rfl); (case hr => first | (go_simp; done) | (go_simp; rfl)); intro w21 hw; have hg : w19.grownBy w21 (some go14) := (by rw [hw]; exact HP20.2); have hp_ : Kd.R (Kd.int .i64) 2 w21 w.heap.size (fun _ => True) (.slice (some ⟨go14, 0, none⟩) y391.length co14) y396 := (by rw [hw, Ny396.out]; exact HP20.1); clear HP20; replace HO_5 := Aside0.mk (Kd.S_after (v := (.slice (some ⟨go14, 0, none⟩) y391.length co14)) (v1 := (.slice (some ⟨go14, 0, none⟩) y391.length co14)) (ok := (fun _ => True)) zS hg (.inl rfl)); replace HO393 := Aside0.mk (hp_); replace HB := Aside0.mk ((by rw [hw]; exact below_set (HB.out) GB14.out : Below w.heap.size w w21)); clear hg hw hp_) | ((with_reducible refine gate_builtin (b := .append) (xs := #[.tmp 26, .tmp 28]) rfl ?_); at_builtin; refine Kd.S_append (Kd.slice 2 (Kd.int .i64)) (w0 := w) w.heap.size rfl (.tmp 26) (.tmp 28) 62 48 (.slice none 0 0) 24 rfl Try.underlying62 info48 rfl (by decide) (by omega) u5 x5_1 y396 [.slice (some ⟨go14, 0, none⟩) y391.length co14] (fun _ => True) (fun k_ => some k_ = (.slice (some ⟨go14, 0, none⟩) y391.length co14 : Value).ownBlock) rfl rfl ?aP (fun k_ hk_ => ((Kd.R_mono (ok' := fun k_ => ((fun _ => True)) k_ ∧ some k_ ≠ (u5 : Value).ownBlock) (Kd.R_apart' (HO393.out) (Kd.S_typed HO_5.out) (by decide)) (fun k_ hk => ⟨trivial, hk.2⟩))).1 k_ hk_.symm) ?aF ?aO ?aB ?aS ?aL ?_; (case aP => exact Kd.M_row (Kd.R_mono (Kd.R_tight rfl (Kd.R_mono (ok' := fun k_ => ((fun _ => True)) k_ ∧ some k_ ≠ (u5 : Value).ownBlock) (Kd.R_apart' (HO393.out) (Kd.S_typed HO_5.out) (by decide)) (fun k_ hk => ⟨trivial, hk.2⟩))) (fun _ h_ => h_))); (case aB => exact zB); (case aF => exact (fun _ _ => trivial)); (case aO => exact (by (with_reducible repeat (first | apply Kd.S_alloc | apply Kd.S_drewN | apply Kd.S_drew)); exact Kd.S_mono HO_5.out (fun k_ hk => ⟨trivial, fun e_ => hk.2 e_⟩))); (case aS => exact (below_size zB)); (case aL => have := LMc15.out; omega); intro v398 w22 ho hb hg hat; rw [← Ny397.out] at ho; have HO399 := Aside0.mk (ho); replace HB := Aside0.mk (hb); clear HO_5 HO393; clear ho hb hg hat))
                  go_roundg k1
                  case measure => have := HK1.out; omega
                  case rel => exact ⟨(y397), (wrap64 (x11_1 + 1)), (by first | rfl | (simp; done) | (simp [*]; done)), H', ⟨by have := HK1.out; omega⟩, ⟨zS⟩, ⟨zB⟩⟩
                 ·rw [if_neg c15] at H
                  exact absurd H (by simp)
                ·rw [if_neg c13] at H
                 exact absurd H (by simp)
               ·rw [if_neg c12] at H
                exact absurd H (by simp)
             ·rw [if_neg c7] at H
              exact absurd H (by simp)
            ·rw [if_neg c6] at H
             exact absurd H (by simp)
          · rw [if_neg c5] at H
            exact absurd H (by simp)
        · rw [if_neg c4] at H
          exact absurd H (by simp)
      · rw [if_neg c3] at H
        have c3b0 : decide (x11_1 < (l1.length : Int)) = false := decide_eq_false c3
        clear c3
        obtain rfl := Option.some.inj H
        go_wp2
        go_ret
        exact ⟨_, by first | rfl | (simp [errW_none, errW_some] <;> rfl) | (simp [*, errW_none, errW_some] <;> rfl), zS, zB⟩

-- NOT PRINTED: function 88 (impl_table_series)

-- NOT PRINTED: function 75 (impl_table_told)


/-! ### impl_factorial: function 167 -/
def impl_factorial.l0 : Nat → Int → Int → Int → Option (Int)
  | 0, _, _, _ => none
  | k + 1, x0, x3, x4 => if x4 ≤ x0 then (impl_factorial.l0 k x0 (wrap64 (x3 * x4)) (wrap64 (x4 + 1))) else (some x3)
def impl_factorial.f (k : Nat) (a0 : Int) : Option (Int) := impl_factorial.l0 k a0 1 2
theorem impl_factorial.mono_l : ∀ k, (∀ y0 y1 y2, LeO (impl_factorial.l0 k y0 y1 y2) (impl_factorial.l0 (k + 1) y0 y1 y2))
  | 0 => fun _ _ _ r h => by simp [impl_factorial.l0] at h
  | k + 1 => by
    have ih0 := impl_factorial.mono_l k
    · intro y0 y1 y2
      unfold impl_factorial.l0
      repeat' first
      | (with_reducible exact ih0 _ _ _)
      | (with_reducible exact LeO.refl _)
      | (with_reducible exact LeO.none _)
      | (with_reducible refine LeO.ite ?_ ?_)
      | (with_reducible refine LeO.bind ?_ (fun _ => ?_))
theorem impl_factorial.mono : ∀ a0 k, LeO (impl_factorial.f k a0) (impl_factorial.f (k + 1) a0) := by
  intro a0 k
  have ih0 := impl_factorial.mono_l k
  unfold impl_factorial.f
  repeat' first
      | (with_reducible exact ih0 _ _ _)
      | (with_reducible exact LeO.refl _)
      | (with_reducible exact LeO.none _)
      | (with_reducible refine LeO.ite ?_ ?_)
      | (with_reducible refine LeO.bind ?_ (fun _ => ?_))
set_option maxHeartbeats 8000000 in
set_option maxRecDepth 100000 in
theorem impl_factorial.calls (k : Nat) (a0 : Int) (r : Int) (w : World) (h : impl_factorial.f k a0 = some r) :
    Calls Try.prog 167 #[.int .i64 a0] w fun e w' => e = .returned (.int .i64 r) ∧ Drawn0 w w' := by
  have H : (impl_factorial.l0 k a0 1 2) = some r := h
  clear h
  have H' := Aside0.mk H
  clear H
  go_enter Try.func167, Try.ntmps167
  go_wp2
  go_loopg [3, 4] k (fun kq v3 v4 w' => ∃ (x3_1 : Int) (x4_1 : Int), v3 = .int .i64 x3_1 ∧ v4 = .int .i64 x4_1 ∧ Aside0 (impl_factorial.l0 kq a0 x3_1 x4_1 = some r) ∧ Aside0 (kq ≤ k) ∧ Drawn0 w w')
  case atStart => exact ⟨(1), (2), (by first | rfl | (simp; done) | (simp [*]; done)), (by first | rfl | (simp; done) | (simp [*]; done)), H', ⟨Nat.le_refl _⟩, by repeat (first | exact Drawn0.refl _ | apply Drawn0.step)⟩
  case round =>
    clear H'
    obtain ⟨x3_1, x4_1, rfl, rfl, HA, HK1, ⟨m1, rfl⟩⟩ := hrel
    cases gk with
    | zero => exact absurd HA.out (by simp [impl_factorial.l0])
    | succ k1 =>
      have H := HA.out
      clear HA
      simp only [impl_factorial.l0] at H
      by_cases c2 : x4_1 ≤ a0
      · rw [if_pos c2] at H
        have c2b0 : decide (x4_1 ≤ a0) = true := decide_eq_true c2
        clear c2
        have H' := Aside0.mk H
        clear H
        go_wp2
        go_roundg k1
        case measure => have := HK1.out; omega
        case rel => exact ⟨(wrap64 (x3_1 * x4_1)), (wrap64 (x4_1 + 1)), (by first | rfl | (simp; done) | (simp [*]; done)), (by first | rfl | (simp; done) | (simp [*]; done)), H', ⟨by have := HK1.out; omega⟩, by repeat (first | exact Drawn0.refl _ | apply Drawn0.step)⟩
      · rw [if_neg c2] at H
        have c2b0 : decide (x4_1 ≤ a0) = false := decide_eq_false c2
        clear c2
        obtain rfl := Option.some.inj H
        go_wp2
        go_ret
        exact ⟨by first | rfl | (simp; done) | (simp [*]; done), by repeat (first | exact Drawn0.refl _ | apply Drawn0.step)⟩

end Go.Proofs.Ytcklefgkbddlhaa.P
