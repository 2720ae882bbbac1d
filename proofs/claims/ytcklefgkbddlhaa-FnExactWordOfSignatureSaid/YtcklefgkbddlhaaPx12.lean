/- What a call of each Go function named below comes to is what the plain Lean function beside it says. Made by a program of this session out of the print of the translation; Lean checks it. -/
import Derived.Test.YtcklefgkbddlhaaPx0
import Derived.Test.YtcklefgkbddlhaaPx10
import Derived.Test.YtcklefgkbddlhaaPx11
import Derived.Laws.Bits64
import Derived.Test.YtcklefgkbddlhaaHandCopyS
namespace Go.Proofs.Ytcklefgkbddlhaa.P
open Go.RowKit Go.Proofs.YtcklefgkbddlhaaW.PrintWords Go.Proofs.YtcklefgkbddlhaaW.PrintLast Go.Proofs.YtcklefgkbddlhaaW.PrintMore
attribute [local go_sem] max2_int min2_int max_two min_two max_three min_three max_four min_four   -- for this text's walks alone
set_option linter.unusedVariables false
set_option linter.unusedSimpArgs false
set_option maxHeartbeats 8000000
set_option maxRecDepth 100000


/-! ### impl_IsSeries: function 57 -/
def impl_IsSeries.f (k : Nat) (a0_0 : Int) (a0_1 : Int) (l0_2 : List (S89)) : Option (Bool) := (impl_isLevel.f a0_0 a0_1).bind fun t338 => (if t338 = true then ((impl_areTerms.f k a0_0 a0_1 l0_2).bind fun t339 => (some t339)) else (some false))
theorem impl_IsSeries.calls (k : Nat) (a0_0 : Int) (a0_1 : Int) (A0_2 : Option Addr) (c0_2 : Nat) (l0_2 : List (S89)) (r : Bool) (w : World) (hr0_2 : Kd.C k89 w A0_2 l0_2.length l0_2) (hc0_2 : l0_2.length ≤ c0_2) (h : impl_IsSeries.f k a0_0 a0_1 l0_2 = some r) :
 Calls Try.prog 57 #[.agg #[.int .i64 a0_0, .int .i64 a0_1, .slice A0_2 l0_2.length c0_2]] w fun e w' => e = .returned (.bool r) ∧ Below w.heap.size w w' := by
 have hu32 := Try.underlying32
 have HR0_2 := zA hr0_2
 have HC0_2 := zA hc0_2
 clear hr0_2 hc0_2
 have HB := zA (Below.refl w.heap.size w)
 have H : ((impl_isLevel.f a0_0 a0_1).bind fun t338 => (if t338 = true then ((impl_areTerms.f k a0_0 a0_1 l0_2).bind fun t339 => (some t339)) else (some false))) = some r := h
 clear h
 replace H := Option.bind_eq_some_iff.mp H
 obtain ⟨t338, A20, H⟩ := H
 replace H : (if t338 = true then ((impl_areTerms.f k a0_0 a0_1 l0_2).bind fun t339 => (some t339)) else (some false)) = some r := H
 have A2 := zA A20
 clear A20
 by_cases c3 : t338 = true
 ·subst c3
  have H1 : ((impl_areTerms.f k a0_0 a0_1 l0_2).bind fun t339 => (some t339)) = some r := by rw [if_pos rfl] at H; exact H
  clear H
  have H := H1
  clear H1
  replace H := Option.bind_eq_some_iff.mp H
  obtain ⟨t339, A40, H⟩ := H
  replace H : (some t339) = some r := H
  have A4 := zA A40
  clear A40
  obtain rfl := Option.some.inj H
  go_enter Try.func57, Try.ntmps57
  go_wp2_with (first | ((with_reducible refine gate_dst (N := 1) rfl ?_); refine zX 1 (#[.int .i64 a0_0, .int .i64 a0_1, .slice A0_2 l0_2.length c0_2]) 32 ?_; intro gb337 hg w5 hbox hb; have BK337 := zA (hbox); have GW337 := zA (zG : w.heap.size ≤ gb337); have GE337 := zA (zG : w.heap.size ≤ gb337); replace HB := zA (below_step zB hb); clear hb hbox hg; obtain ⟨hcz6_0, hcz6_1, hcz6_2, hfz6_0, hfz6_1, hfz6_2⟩ := zC3 BK337) | ((with_reducible refine gate_callee (f := 72) rfl ?_); refine goesL_ (some 7) rfl rfl Try.func72 (by kernel_rfl) rfl #[.int .i64 a0_0, .int .i64 a0_1] rfl zM ?_; (with_reducible refine (impl_isLevel.calls a0_0 a0_1 true _ A2.out).mono ?_); rintro e w' ⟨rfl, ⟨nd, rfl⟩⟩; refine ⟨_, rfl, ?_⟩) | (go_at_call 111; (with_reducible refine (impl_areTerms.calls k a0_0 a0_1 _ _ l0_2 t339 _ ?side1 ?side2 A4.out).mono ?_); (case side1 => repeat (exact (Kd.C_below HR0_2.out zB))); (case side2 => exact HC0_2.out); rintro e w7 ⟨rfl, hb⟩; replace BK337 := zA (zW BK337 hb); replace HB := zA (below_step zB hb); (try clear hb); (try clear hb2); (try clear hk); (try clear hi)))
  go_ret
  exact ⟨by rfl, zB⟩
 ·replace c3 := Bool.eq_false_iff.mpr c3
  subst c3
  have H1 : (some false) = some r := by rw [if_neg (show ¬ (false = true) by decide)] at H; exact H
  clear H
  have H := H1
  clear H1
  obtain rfl := Option.some.inj H
  go_enter Try.func57, Try.ntmps57
  go_wp2_with (first | ((with_reducible refine gate_dst (N := 1) rfl ?_); refine zX 1 (#[.int .i64 a0_0, .int .i64 a0_1, .slice A0_2 l0_2.length c0_2]) 32 ?_; intro gb337 hg w8 hbox hb; have BK337 := zA (hbox); have GW337 := zA (zG : w.heap.size ≤ gb337); have GE337 := zA (zG : w.heap.size ≤ gb337); replace HB := zA (below_step zB hb); clear hb hbox hg; obtain ⟨hcz9_0, hcz9_1, hcz9_2, hfz9_0, hfz9_1, hfz9_2⟩ := zC3 BK337) | ((with_reducible refine gate_callee (f := 72) rfl ?_); refine goesL_ (some 7) rfl rfl Try.func72 (by kernel_rfl) rfl #[.int .i64 a0_0, .int .i64 a0_1] rfl zM ?_; (with_reducible refine (impl_isLevel.calls a0_0 a0_1 false _ A2.out).mono ?_); rintro e w' ⟨rfl, ⟨nd, rfl⟩⟩; refine ⟨_, rfl, ?_⟩))
  go_ret
  exact ⟨by rfl, zB⟩


/-! ### impl_pathOfWord: function 74 -/
def impl_pathOfWord.l0 : Nat → Int → List (List Int) → List Int → Int → Int → Option ((List (List Int)))
 | 0, _, _, _, _, _ => none
 | k + 1, x0, x5, x9, x10, x11 => if x11 < x10 then (if 0 ≤ x11 then (if x11 < (x9.length : Int) then (if 0 ≤ x0 then (if (x0 : Int).toNat ≤ 35184372088832 then ((some (List.replicate (x0 : Int).toNat 0 : List Int)).bind fun y341 => ((impl_size.f (rd x9 x11)).bind fun t344 => ((impl_size.f (rd x9 x11)).bind fun t345 => (if t345 = 0 then (none) else (if 0 ≤ (wrap64 (t344 - 1)) then (if (wrap64 (t344 - 1)) < (y341.length : Int) then (if x5.length < 5864062014805 then (impl_pathOfWord.l0 k x0 (x5 ++ [(y341.set ((wrap64 (t344 - 1)) : Int).toNat (wrap64 (Int.tdiv (rd x9 x11) t345)))]) x9 x10 (wrap64 (x11 + 1))) else (none)) else (none)) else (none)))))) else (none)) else (none)) else (none)) else (none)) else (some x5)
def impl_pathOfWord.f (k : Nat) (a0 : Int) (l1 : List Int) : Option ((List (List Int))) := impl_pathOfWord.l0 k a0 ([] : List (List Int)) l1 (l1.length : Int) 0
theorem impl_pathOfWord.calls (k : Nat) (a0 : Int) (A1 : Option Addr) (c1 : Nat) (l1 : List Int) (r : List (List Int)) (w : World) (hr1 : Kd.C (Kd.int .i64) w A1 l1.length l1) (hc1 : l1.length ≤ c1) (h : impl_pathOfWord.f k a0 l1 = some r) :
 Calls Try.prog 74 #[.int .i64 a0, .slice A1 l1.length c1] w fun e w' => ∃ v0_ : Value, e = .returned (v0_) ∧ Kd.S (Kd.slice 2 (Kd.int .i64)) 48 w' w.heap.size (fun _ => True) v0_ r ∧ Below w.heap.size w w' := by
 have HR1 := zA hr1
 have HC1 := zA hc1
 clear hr1 hc1
 have HB := zA (Below.refl w.heap.size w)
 have H : (impl_pathOfWord.l0 k a0 ([] : List (List Int)) l1 (l1.length : Int) 0) = some r := h
 clear h
 have H' := zA H
 clear H
 go_enter Try.func74, Try.ntmps74
 go_wp2
 go_loopg [5, 11] k (fun kq v5 v11 w' => ∃ (x5_1 : List (List Int)) (x11_1 : Int), v11 = .int .i64 x11_1 ∧ Aside0 (impl_pathOfWord.l0 kq a0 x5_1 l1 (l1.length : Int) x11_1 = some r) ∧ Aside0 (kq ≤ k) ∧ Aside0 (Kd.S (Kd.slice 2 (Kd.int .i64)) 48 w' w.heap.size (fun _ => True) v5 x5_1) ∧ Aside0 (Below w.heap.size w w'))
 case atStart => exact ⟨(([] : List (List Int))), (0), (by rfl), H', ⟨Nat.le_refl _⟩, ⟨by exact Kd.S_nil _ _ _ _ _⟩, ⟨zB⟩⟩
 case round =>
  clear H'
  obtain ⟨x5_1, x11_1, rfl, HA, HK1, HO_5, HB⟩ := hrel
  cases gk with
  | zero => exact absurd HA.out (by simp [impl_pathOfWord.l0])
  | succ k1 =>
   have H := HA.out
   clear HA
   simp only [impl_pathOfWord.l0] at H
   by_cases c3 : x11_1 < (l1.length : Int)
   ·rw [if_pos c3] at H
    have c3b0 : decide (x11_1 < (l1.length : Int)) = true := decide_eq_true c3
    clear c3
    by_cases c4 : 0 ≤ x11_1
    ·rw [if_pos c4] at H
     have c4b0 : decide (0 ≤ x11_1) = true := decide_eq_true c4
     clear c4
     by_cases c5 : x11_1 < (l1.length : Int)
     ·rw [if_pos c5] at H
      have c5b0 : decide (x11_1 < (l1.length : Int)) = true := decide_eq_true c5
      clear c5
      by_cases c6 : 0 ≤ a0
      ·rw [if_pos c6] at H
       have c6b0 := eq_true c6
       have c6b1 : decide (0 ≤ a0) = true := decide_eq_true c6
       clear c6
       by_cases c7 : (a0 : Int).toNat ≤ 35184372088832
       ·rw [if_pos c7] at H
        have c7b0 := eq_true c7
        have c7b1 : decide ((a0 : Int).toNat ≤ 35184372088832) = true := decide_eq_true c7
        clear c7
        obtain ⟨y341, hy341⟩ : ∃ y_ : List Int, y_ = (List.replicate (a0 : Int).toNat 0) := ⟨_, rfl⟩
        replace H : ((impl_size.f (rd l1 x11_1)).bind fun t344 => ((impl_size.f (rd l1 x11_1)).bind fun t345 => (if t345 = 0 then (none) else (if 0 ≤ (wrap64 (t344 - 1)) then (if (wrap64 (t344 - 1)) < (y341.length : Int) then (if x5_1.length < 5864062014805 then (impl_pathOfWord.l0 k1 a0 (x5_1 ++ [(y341.set ((wrap64 (t344 - 1)) : Int).toNat (wrap64 (Int.tdiv (rd l1 x11_1) t345)))]) l1 (l1.length : Int) (wrap64 (x11_1 + 1))) else (none)) else (none)) else (none))))) = some r := by (have H2_ := (Option.bind_some _ _).symm.trans H; rw [hy341]; with_reducible exact H2_)
        have Ny341 := zA hy341
        clear hy341
        replace H := Option.bind_eq_some_iff.mp H
        obtain ⟨t344, A80, H⟩ := H
        replace H : ((impl_size.f (rd l1 x11_1)).bind fun t345 => (if t345 = 0 then (none) else (if 0 ≤ (wrap64 (t344 - 1)) then (if (wrap64 (t344 - 1)) < (y341.length : Int) then (if x5_1.length < 5864062014805 then (impl_pathOfWord.l0 k1 a0 (x5_1 ++ [(y341.set ((wrap64 (t344 - 1)) : Int).toNat (wrap64 (Int.tdiv (rd l1 x11_1) t345)))]) l1 (l1.length : Int) (wrap64 (x11_1 + 1))) else (none)) else (none)) else (none)))) = some r := H
        have A8 := zA A80
        clear A80
        replace H := Option.bind_eq_some_iff.mp H
        obtain ⟨t345, A90, H⟩ := H
        replace H : (if t345 = 0 then (none) else (if 0 ≤ (wrap64 (t344 - 1)) then (if (wrap64 (t344 - 1)) < (y341.length : Int) then (if x5_1.length < 5864062014805 then (impl_pathOfWord.l0 k1 a0 (x5_1 ++ [(y341.set ((wrap64 (t344 - 1)) : Int).toNat (wrap64 (Int.tdiv (rd l1 x11_1) t345)))]) l1 (l1.length : Int) (wrap64 (x11_1 + 1))) else (none)) else (none)) else (none))) = some r := H
        have A9 := zA A90
        clear A90
        by_cases c10 : t345 = 0
        ·rw [if_pos c10] at H
         exact absurd H (by simp)
        ·rw [if_neg c10] at H
         have c10b0 : (t345 == 0) = false := beq_eq_false_iff_ne.mpr c10
         have c10b1 : (t345 != 0) = true := bne_iff_ne.mpr c10
         obtain ⟨ji11, hji11⟩ : ∃ j_ : Int, (wrap64 (t344 - 1)) = j_ := ⟨_, rfl⟩
         replace H : (if 0 ≤ (ji11) then (if (ji11) < (y341.length : Int) then (if x5_1.length < 5864062014805 then (impl_pathOfWord.l0 k1 a0 (x5_1 ++ [(y341.set ((ji11) : Int).toNat (wrap64 (Int.tdiv (rd l1 x11_1) t345)))]) l1 (l1.length : Int) (wrap64 (x11_1 + 1))) else (none)) else (none)) else (none)) = some r := by (rw [hji11] at H; exact H)
         (try rw [hji11] at A8)
         (try rw [hji11] at A9)
         have hji11w : (IntKind.i64.wrap (t344 - 1)) = ji11 := (i64_w _).trans hji11
         by_cases c12 : 0 ≤ (ji11)
         ·rw [if_pos c12] at H
          have c12b0 : decide (0 ≤ (ji11)) = true := decide_eq_true c12
          clear c12
          by_cases c13 : (ji11) < (y341.length : Int)
          ·rw [if_pos c13] at H
           have c13b0 : decide ((ji11) < (y341.length : Int)) = true := decide_eq_true c13
           clear c13
           obtain ⟨y346, hy346⟩ : ∃ y_ : List Int, y_ = (y341.set ((ji11) : Int).toNat (wrap64 (Int.tdiv (rd l1 x11_1) t345))) := ⟨_, rfl⟩
           replace H : (if x5_1.length < 5864062014805 then (impl_pathOfWord.l0 k1 a0 (x5_1 ++ [y346]) l1 (l1.length : Int) (wrap64 (x11_1 + 1))) else (none)) = some r := by (rw [hy346]; with_reducible exact H)
           have Ny346 := zA hy346
           clear hy346
           by_cases c15 : x5_1.length < 5864062014805
           ·rw [if_pos c15] at H
            have LMc15 := zA c15
            clear c15
            obtain ⟨y347, hy347⟩ : ∃ y_ : List (List Int), y_ = (x5_1 ++ [y346]) := ⟨_, rfl⟩
            replace H : (impl_pathOfWord.l0 k1 a0 y347 l1 (l1.length : Int) (wrap64 (x11_1 + 1))) = some r := by (rw [hy347]; with_reducible exact H)
            have Ny347 := zA hy347
            clear hy347
            have H' := zA H
            clear H
            have p340 : 0 ≤ (x11_1 : Int) := zD
            have q340 : x11_1 < (l1.length : Int) := zD
            obtain ⟨ad340, e340, hx340_0⟩ := Kd.at_int HR1.out x11_1 p340 q340
            cases e340
            replace hx340_0 := zH HB hx340_0
            replace p340 := eq_true p340
            replace q340 := eq_true q340
            go_wp2_with (first | ((with_reducible refine gate_dst (N := 16) rfl ?_); refine Kd.R_make (Kd.int .i64) _ 2 rfl (N := 16) rfl 48 _ _ rfl a0 rfl rfl Try.underlying48 (.int .i64 0) 8 info2 rfl (by decide) (by omega) 0 (ok := fun _ => True) (okp := fun _ => True) rfl (fun _ hk => hk) trivial (zD) (Nat.le_trans (Nat.mul_le_mul_right _ (zD : a0.toNat ≤ 35184372088832)) (by omega)) (Below.refl _ _) (Nat.le_refl _) ?_; intro v342 w16 ho17 hb hg_ hnew_; clear hg_ hnew_; (rw [← Ny341.out] at ho17); have HO343 := zA (Kd.R_lower ho17 (below_size zB)); replace HO_5 := zA (Kd.S_elder' zS (Kd.R_base ho17) hb); replace HB := zA (below_step zB hb); clear hb ho17) | ((with_reducible refine gate_callee (f := 128) rfl ?_); refine goesL_ (some 19) rfl rfl Try.func128 (by kernel_rfl) rfl #[.int .i64 (rd l1 x11_1)] rfl zM ?_; (with_reducible refine (impl_size.calls (rd l1 x11_1) t344 _ A8.out).mono ?_); rintro e w18 ⟨rfl, hb⟩; refine ⟨_, rfl, ?_⟩; replace HO_5 := zA (Kd.S_below HO_5.out hb); replace HO343 := zA (Kd.R_below HO343.out hb); replace HB := zA (below_step zB hb); (try clear hb); (try clear hb2); (try clear hk); (try clear hi)) | ((with_reducible refine gate_callee (f := 128) rfl ?_); refine goesL_ (some 23) rfl rfl Try.func128 (by kernel_rfl) rfl #[.int .i64 (rd l1 x11_1)] rfl zM ?_; (with_reducible refine (impl_size.calls (rd l1 x11_1) t345 _ A9.out).mono ?_); rintro e w19 ⟨rfl, hb⟩; refine ⟨_, rfl, ?_⟩; replace HO_5 := zA (Kd.S_below HO_5.out hb); replace HO343 := zA (Kd.R_below HO343.out hb); replace HB := zA (below_step zB hb); (try clear hb); (try clear hb2); (try clear hk); (try clear hi); have p14 : 0 ≤ ((ji11) : Int) := zD; have q14 : ((ji11) : Int) < ((y341.length : Int) : Int) := zD; obtain ⟨go14, co14, eo14, gb14, gl14, cl14, HG14⟩ := Kd.R_form HO343.out (by omega); (cases eo14); have GB14 := zA gb14; have GG14 := zA HG14; clear gb14 gl14 HG14; obtain ⟨hx14_0, hf14_0⟩ := Kd.R_celln 0 HO343.out ((ji11) : Int) p14 q14; replace p14 := eq_true p14; replace q14 := eq_true q14; obtain ⟨hy20_, hz20_⟩ := Kd.R_celln 0 HO343.out ((ji11) : Int) (zD) (zD); have HP20 := Kd.R_putg HO343.out ((ji11) : Int) (wrap64 (Int.tdiv (rd l1 x11_1) t345))) | ((with_reducible refine gate_store (t := 2) (p := 25) rfl ?_); refine store_event (t := 2) (p := 25) (v := ?vo_w21) (w1 := (w19.setCell ⟨go14, ((ji11) : Int).toNat, none⟩ (.int .i64 (wrap64 (Int.tdiv (rd l1 x11_1) t345))))) ?hg ?ho ?hn ?hr ?_; (case ho => rfl); (case hg => rfl); (case hn => rfl); (case hr => (go_simp; done)); intro w21 hw; have hg : w19.grownBy w21 (some go14) := (by rw [hw]; exact HP20.2); have hp_ : Kd.R (Kd.int .i64) 2 w21 w.heap.size (fun _ => True) (.slice (some ⟨go14, 0, none⟩) y341.length co14) y346 := (by rw [hw, Ny346.out]; exact HP20.1); clear HP20; replace HO_5 := zA (Kd.S_after (v := (.slice (some ⟨go14, 0, none⟩) y341.length co14)) (v1 := (.slice (some ⟨go14, 0, none⟩) y341.length co14)) (ok := (fun _ => True)) zS hg (.inl rfl)); replace HO343 := zA (hp_); replace HB := zA ((by rw [hw]; exact below_set (HB.out) GB14.out : Below w.heap.size w w21)); clear hg hw hp_) | ((with_reducible refine gate_builtin (b := .append) (xs := #[.tmp 26, .tmp 28]) rfl ?_); at_builtin; refine Kd.S_append (Kd.slice 2 (Kd.int .i64)) (w0 := w) w.heap.size rfl (.tmp 26) (.tmp 28) 62 48 (.slice none 0 0) 24 rfl Try.underlying62 info48 rfl (by decide) (by omega) u5 x5_1 y346 [.slice (some ⟨go14, 0, none⟩) y341.length co14] (fun _ => True) (fun k_ => some k_ = (.slice (some ⟨go14, 0, none⟩) y341.length co14 : Value).ownBlock) rfl rfl ?aP (fun k_ hk_ => ((Kd.R_mono (ok' := fun k_ => ((fun _ => True)) k_ ∧ some k_ ≠ (u5 : Value).ownBlock) (Kd.R_apart' (HO343.out) (Kd.S_typed HO_5.out) (by decide)) (fun k_ hk => ⟨trivial, hk.2⟩))).1 k_ hk_.symm) ?aF ?aO ?aB ?aS ?aL ?_; (case aP => exact Kd.M_row (Kd.R_mono (Kd.R_tight rfl (Kd.R_mono (ok' := fun k_ => ((fun _ => True)) k_ ∧ some k_ ≠ (u5 : Value).ownBlock) (Kd.R_apart' (HO343.out) (Kd.S_typed HO_5.out) (by decide)) (fun k_ hk => ⟨trivial, hk.2⟩))) (fun _ h_ => h_))); (case aB => exact zB); (case aF => exact (fun _ _ => trivial)); (case aO => exact (by exact Kd.S_mono HO_5.out (fun k_ hk => ⟨trivial, fun e_ => hk.2 e_⟩))); (case aS => exact (below_size zB)); (case aL => have := LMc15.out; omega); intro v348 w22 ho hb hg hat; rw [← Ny347.out] at ho; have HO349 := zA (ho); replace HB := zA (hb); clear HO_5 HO343; clear ho hb hg hat))
            go_roundg k1
            case measure => have := HK1.out; omega
            case rel => exact ⟨(y347), (wrap64 (x11_1 + 1)), (by rfl), H', ⟨by have := HK1.out; omega⟩, ⟨zS⟩, ⟨zB⟩⟩
           ·rw [if_neg c15] at H
            exact absurd H (by simp)
          ·rw [if_neg c13] at H
           exact absurd H (by simp)
         ·rw [if_neg c12] at H
          exact absurd H (by simp)
       ·rw [if_neg c7] at H
        exact absurd H (by simp)
      ·rw [if_neg c6] at H
       exact absurd H (by simp)
     ·rw [if_neg c5] at H
      exact absurd H (by simp)
    ·rw [if_neg c4] at H
     exact absurd H (by simp)
   ·rw [if_neg c3] at H
    have c3b0 : decide (x11_1 < (l1.length : Int)) = false := decide_eq_false c3
    clear c3
    obtain rfl := Option.some.inj H
    go_wp2
    go_ret
    exact ⟨_, by rfl, zS, zB⟩


/-! ### bits_Mul32: function 174 -/
/-! ### bits_Mul64: function 175 -/
def bits_Mul64.f (a0 : Int) (a1 : Int) : Option (Int × Int) := some (IntKind.u64.wrap ((IntKind.u64.wrap ((IntKind.u64.wrap ((a0 / 4294967296) * (a1 / 4294967296))) + ((IntKind.u64.wrap ((IntKind.u64.wrap ((a0 / 4294967296) * (Go.bits .and .u64 a1 4294967295))) + ((IntKind.u64.wrap ((Go.bits .and .u64 a0 4294967295) * (Go.bits .and .u64 a1 4294967295))) / 4294967296))) / 4294967296))) + ((IntKind.u64.wrap ((Go.bits .and .u64 (IntKind.u64.wrap ((IntKind.u64.wrap ((a0 / 4294967296) * (Go.bits .and .u64 a1 4294967295))) + ((IntKind.u64.wrap ((Go.bits .and .u64 a0 4294967295) * (Go.bits .and .u64 a1 4294967295))) / 4294967296))) 4294967295) + (IntKind.u64.wrap ((Go.bits .and .u64 a0 4294967295) * (a1 / 4294967296))))) / 4294967296)), IntKind.u64.wrap (a0 * a1))
theorem bits_Mul64.calls (a0 : Int) (a1 : Int) (r1 : Int) (r2 : Int) (w : World) (h : bits_Mul64.f a0 a1 = some (r1, r2)) :
 Calls Try.prog 175 #[.int .u64 a0, .int .u64 a1] w fun e w' => e = .returned (.tuple #[.int .u64 r1, .int .u64 r2]) ∧ Drawn0 w w' := by
 have H : (some (IntKind.u64.wrap ((IntKind.u64.wrap ((IntKind.u64.wrap ((a0 / 4294967296) * (a1 / 4294967296))) + ((IntKind.u64.wrap ((IntKind.u64.wrap ((a0 / 4294967296) * (Go.bits .and .u64 a1 4294967295))) + ((IntKind.u64.wrap ((Go.bits .and .u64 a0 4294967295) * (Go.bits .and .u64 a1 4294967295))) / 4294967296))) / 4294967296))) + ((IntKind.u64.wrap ((Go.bits .and .u64 (IntKind.u64.wrap ((IntKind.u64.wrap ((a0 / 4294967296) * (Go.bits .and .u64 a1 4294967295))) + ((IntKind.u64.wrap ((Go.bits .and .u64 a0 4294967295) * (Go.bits .and .u64 a1 4294967295))) / 4294967296))) 4294967295) + (IntKind.u64.wrap ((Go.bits .and .u64 a0 4294967295) * (a1 / 4294967296))))) / 4294967296)), IntKind.u64.wrap (a0 * a1))) = some (r1, r2) := h
 clear h
 simp only [Option.some.injEq, Prod.mk.injEq] at H
 obtain ⟨rfl, rfl⟩ := H
 go_enter Try.func175, Try.ntmps175
 go_wp2
 go_ret2
 exact ⟨by rfl, by repeat (exact Drawn0.refl _)⟩


/-! ### bits_Mul: function 163 -/
def bits_Mul.f (a0 : Int) (a1 : Int) : Option (Int × Int) := (bits_Mul64.f a0 a1).bind fun bt350 => (some (bt350.1, bt350.2))
theorem bits_Mul.calls (a0 : Int) (a1 : Int) (r1 : Int) (r2 : Int) (w : World) (h : bits_Mul.f a0 a1 = some (r1, r2)) :
 Calls Try.prog 163 #[.int .u64 a0, .int .u64 a1] w fun e w' => e = .returned (.tuple #[.int .u64 r1, .int .u64 r2]) ∧ Drawn0 w w' := by
 have H : ((bits_Mul64.f a0 a1).bind fun bt350 => (some (bt350.1, bt350.2))) = some (r1, r2) := h
 clear h
 replace H := Option.bind_eq_some_iff.mp H
 obtain ⟨⟨t350, t351⟩, A30, H⟩ := H
 replace H : (some (t350, t351)) = some (r1, r2) := H
 have A3 := zA A30
 clear A30
 simp only [Option.some.injEq, Prod.mk.injEq] at H
 obtain ⟨rfl, rfl⟩ := H
 go_enter Try.func163, Try.ntmps163
 go_wp2_with (first | ((with_reducible refine gate_callee (f := 175) rfl ?_); refine goesL_ (some 25) rfl rfl Try.func175 (by kernel_rfl) rfl #[.int .u64 a0, .int .u64 a1] rfl zM ?_; (with_reducible refine (bits_Mul64.calls a0 a1 t350 t351 _ A3.out).mono ?_); rintro e w' ⟨rfl, ⟨nd, rfl⟩⟩; refine ⟨_, rfl, ?_⟩))
 go_ret2
 exact ⟨by rfl, by repeat (first | exact Drawn0.refl _ | apply Drawn0.step)⟩


/-! ### impl_Fraction: function 130, by hand -/
namespace RepP
theorem infoF : (Try.prog.info? 27).map (fun i => (i.zero, i.size, i.bytes)) = some (some (.agg #[.int .i64 0, .int .i64 0]), 2, 16) := by kernel_rfl
theorem mask32 (x : Int) (h0 : 0 ≤ x) (h1 : x < 1000000) : Go.bits .and .u64 x 4294967295 = x := by
 have h := bits_mask .u64 63 (by decide) (fun n h₀ h₁ => by rw [IntKind.wrap_u64]; omega) 32 (by decide) x h0 (by omega)
 have e : ((2 : Int) ^ 32 - 1) = 4294967295 := by decide
 have e2 : ((2 : Int) ^ 32) = 4294967296 := by decide
 rw [e, e2] at h
 rw [h]
 omega
theorem mul_one (n : Nat) (h : n ≤ 1000) : bits_Mul.f 1 (n : Int) = some (0, (n : Int)) := by
 unfold bits_Mul.f bits_Mul64.f
 simp only [Option.bind_some]
 rw [mask32 1 (by decide) (by decide), mask32 (n : Int) (by omega) (by omega)]
 have e0 : (1 : Int) / 4294967296 = 0 := by decide
 have e1 : (n : Int) / 4294967296 = 0 := by omega
 have e2 : ∀ x : Int, 0 ≤ x → x < 1000000 → IntKind.u64.wrap x = x := fun x h0 h1 => by rw [IntKind.wrap_u64]; omega
 have e3 : IntKind.u64.wrap 0 = 0 := e2 0 (by decide) (by decide)
 rw [e0, e1, Int.zero_mul, Int.zero_mul, Int.one_mul, Int.mul_zero, e3, e2 (n : Int) (by omega) (by omega), e1, Int.add_zero, e3, Int.add_zero, mask32 0 (by decide) (by decide)]
 simp [e3]
/-- The cells of many equal fractions. -/
def flat (a b : Int) : Nat → List Value
 | 0 => []
 | m + 1 => .int .i64 a :: .int .i64 b :: flat a b m
theorem flat_length (a b : Int) : ∀ m, (flat a b m).length = m * 2
 | 0 => rfl
 | m + 1 => by rw [flat, List.length_cons, List.length_cons, flat_length a b m]; omega
theorem flat_at (a b : Int) : ∀ m j v, (flat a b m)[j]? = some v → v = (if j % 2 = 0 then .int .i64 a else .int .i64 b)
 | 0, j, v, h => by simp [flat] at h
 | m + 1, 0, v, h => by simp [flat] at h; simp [h]
 | m + 1, 1, v, h => by simp [flat] at h; simp [h]
 | m + 1, j + 2, v, h => by
  have := flat_at a b m j v (by simpa [flat] using h)
  rw [this, show (j + 2) % 2 = j % 2 by omega]
theorem flat_one (a b : Int) (m : Nat) : ∀ v ∈ flat a b m, v.oneCell' = true := by
 intro v hv
 obtain ⟨j, hj, rfl⟩ := List.getElem_of_mem hv
 have := flat_at a b m j _ (List.getElem?_eq_getElem hj)
 rw [this]
 split <;> rfl
section
variable {base g n cap : Nat} {w0 : World} (a b : Int)
theorem fills : ∀ m o (w : World) (x : List S27), Kd.R k27 27 w base (fun _ => True) (.slice (some ⟨g, 0, none⟩) n cap) x → Below w0.heap.size w0 w → w0.heap.size ≤ g → o + m ≤ x.length →
 Kd.R k27 27 (w.setCells g (o * 2) (flat a b m)) base (fun _ => True) (.slice (some ⟨g, 0, none⟩) n cap) (x.take o ++ List.replicate m ⟨a, b⟩ ++ x.drop (o + m)) ∧ Below w0.heap.size w0 (w.setCells g (o * 2) (flat a b m))
 | 0, o, w, x, h, hb, _, _ => ⟨by simp only [List.replicate_zero, flat, World.setCells, List.append_nil, Nat.add_zero, List.take_append_drop]; exact h, hb⟩
 | m + 1, o, w, x, h, hb, hg, hl => by
  have hnx := (Kd.R_reads' h).1
  obtain ⟨c, hcl, hM, hc, hf⟩ := Kd.R_elem h z27 (o : Int) (by omega) (by omega)
  have hs := (Kd.R_seg h (o : Int) (by omega) (by omega) (seg := [.int .i64 a, .int .i64 b]) (j := 0) hcl hc (show 2 ≤ 2 from Nat.le_refl _) (x' := ⟨a, b⟩) (okp := fun _ => False) (by
   have e : List.take 0 c ++ [Value.int .i64 a, .int .i64 b] ++ List.drop (0 + [Value.int .i64 a, .int .i64 b].length) c = [.int .i64 a, .int .i64 b] := by
    rw [List.drop_of_length_le (by rw [hcl]; exact (show 2 ≤ 2 from Nat.le_refl _))]
    rfl
   rw [e]
   exact k27_mkM _ _ _ ⟨a, b⟩) (fun _ hk => hk.elim)).1
  rw [Int.toNat_natCast] at hs
  obtain ⟨p, q⟩ := fills m (o + 1) _ (x.set o ⟨a, b⟩) hs (below_set (below_set hb hg) hg) hg (by rw [List.length_set]; omega)
  have e : (x.set o ⟨a, b⟩).take (o + 1) ++ List.replicate m ⟨a, b⟩ ++ (x.set o ⟨a, b⟩).drop (o + 1 + m) = x.take o ++ List.replicate (m + 1) ⟨a, b⟩ ++ x.drop (o + (m + 1)) := by
   rw [List.take_succ_eq_append_getElem (by rw [List.length_set]; omega), List.take_set_of_le (Nat.le_refl _), List.getElem_set_self, List.drop_set_of_lt (by omega), show o + 1 + m = o + (m + 1) from by omega, List.replicate_succ]
   simp
  rw [e] at p
  have e2 : (w.setCells g (o * 2) (flat a b (m + 1))) = ((w.setCells g (o * 2 + 0) [.int .i64 a, .int .i64 b]).setCells g ((o + 1) * 2) (flat a b m)) := by
   simp only [flat, World.setCells]
   rw [show (o + 1) * 2 = o * 2 + 1 + 1 from by omega]
   rfl
  rw [e2]
  exact ⟨p, q⟩
end
theorem frozen_of {base g n cap : Nat} {ok : Nat → Prop} {x : List S27} {w : World} (h : Kd.R k27 27 w base ok (.slice (some ⟨g, 0, none⟩) n cap) x) (j : Nat) : w.frozen? ⟨g, j, none⟩ = false := by
 obtain ⟨inner, ho⟩ := Kd.R_own h
 obtain ⟨cells, hcc⟩ := own_typed ho g (by simp [Value.ownBlock])
 exact blk_frozen hcc j
theorem cell_of {base g n cap : Nat} {ok : Nat → Prop} {x : List S27} {w : World} (h : Kd.R k27 27 w base ok (.slice (some ⟨g, 0, none⟩) n cap) x) (j : Nat) (hj : j < n * 2) : w.cell? ⟨g, j, none⟩ = some (if j % 2 = 0 then .int .i64 (rd_T27 x ((j / 2 : Nat) : Int)).f0 else .int .i64 (rd_T27 x ((j / 2 : Nat) : Int)).f1) := by
 obtain ⟨c, hcl, hM, hc, hf⟩ := Kd.R_elem h z27 ((j / 2 : Nat) : Int) (by omega) (by omega)
 obtain rfl := k27_openM hM
 rw [Int.toNat_natCast] at hc
 by_cases h2 : j % 2 = 0
 ·rw [if_pos h2]
  have := hc 0 _ rfl
  rw [show j / 2 * k27.sz + 0 = j from by show j / 2 * 2 + 0 = j; omega] at this
  exact this
 ·rw [if_neg h2]
  have := hc 1 _ rfl
  rw [show j / 2 * k27.sz + 1 = j from by show j / 2 * 2 + 1 = j; omega] at this
  exact this
theorem copy_first (a b : Int) (n cap c g : Nat) (ad : Addr) (base : Nat) (w : World) (ty : TypeId) (h1 : 1 ≤ n) {ok : Nat → Prop} {x : List S27} (h : Kd.R k27 27 w base ok (.slice (some ⟨g, 0, none⟩) n cap) x) (hx : w.cell? ad = some (.int .i64 a)) (hy : w.cell? (ad.add 1) = some (.int .i64 b)) :
 (Builtin.copy_ #[77, 77] ty #[.slice (some ⟨g, 0, none⟩) n cap, .slice (some ad) 1 c]).run Try.prog w = .ok (.int .i64 1) (w.setCells g 0 (flat a b 1)) := by
 have hm : Nat.min 1 n = 1 := Nat.min_eq_left h1
 have := run_copy_sized (P := Try.prog) w 77 77 ty 27 g 0 n cap ad 1 c 2 (flat a b 1) Try.underlying77 (by simpa using congrArg (fun o => o.map (fun q => q.2.1)) infoF) (by rw [hm]; rfl) (by
  intro j v hj
  match j, hj with
  | 0, hj => (obtain rfl : (Value.int .i64 a) = v := by simpa [flat] using hj); rw [Addr.add_zero']; exact hx
  | 1, hj => (obtain rfl : (Value.int .i64 b) = v := by simpa [flat] using hj); exact hy) (by
  intro j hj
  rw [Nat.zero_add, cell_of h j (by rw [flat_length] at hj; omega)]
  rfl) (by intro j hj; exact frozen_of h _) (flat_one a b 1)
 rw [hm] at this
 exact this
theorem repeat_one (a b : Int) (n : Nat) (h1 : 1 ≤ n) (h13 : n ≤ 1000) (ad : Addr) (c : Nat) (w : World) (hx : w.cell? ad = some (.int .i64 a)) (hy : w.cell? (ad.add 1) = some (.int .i64 b)) :
 Calls Try.prog 130 #[.slice (some ad) 1 c, .int .i64 n] w fun e w' => ∃ v : Value, e = .returned v ∧ Kd.R k27 27 w' w.heap.size (fun _ => True) v (List.replicate n ⟨a, b⟩) ∧ Below w.heap.size w w' := by
 have hu64 : IntKind.u64.wrap (n : Int) = n := by simp only [IntKind.wrap_u64]; omega
 have hi64 : IntKind.i64.wrap (n : Int) = n := by simp only [IntKind.wrap_i64]; omega
 have b0 : decide ((n : Int) < 0) = false := decide_eq_false (by omega)
 have b1 : decide ((9223372036854775807 : Int) < (n : Int)) = false := decide_eq_false (by omega)
 have HM := zA (mul_one n h13)
 have H1 := zA h1
 have H13 := zA h13
 have HX := zA hx
 have HY := zA hy
 clear hx hy
 go_enter Try.func130, Try.ntmps130
 go_wp2_with (first | (go_at_call 163; refine (bits_Mul.calls 1 n 0 n _ HM.out).mono ?_; rintro e w' ⟨rfl, nd, rfl⟩) | ((with_reducible refine gate_dst (N := 30) rfl ?_); (refine Kd.R_make k27 _ 27 rfl (N := 30) rfl 77 _ _ rfl (n : Int) rfl rfl Try.underlying77 (.agg #[.int .i64 0, .int .i64 0]) 16 infoF rfl (by decide) (by omega) z27 (ok := fun _ => True) (okp := fun _ => True) (k27_mkM _ _ _ z27) (fun _ hk => hk) trivial (by omega) (by rw [Int.toNat_natCast]; omega) (Below.refl _ _) (Nat.le_refl _) ?_; intro v30 w7 ho5 hb hg_ hnew_; clear hg_ hnew_; obtain ⟨g, cap, ev, hgb, hgl, hcc⟩ := Kd.R_form ho5 (by rw [List.length_replicate, Int.toNat_natCast]; exact H1.out); rw [List.length_replicate, Int.toNat_natCast] at ev; subst ev; have hnc := (Kd.R_reads' ho5).2.1; rw [Int.toNat_natCast] at ho5; have HN := zA ho5; have HB := zA (below_step (pw_below_drewN (Below.refl w.heap.size w) nd) hb); have HG := zA (show w.heap.size ≤ g from hgb); have HNC := zA hnc; have hx7 := (hb.cell (World.block_lt_of_cell? _ _ HX.out)).trans HX.out; have hy7 := (hb.cell (World.block_lt_of_cell? _ _ HY.out)).trans HY.out; have hcp : ∀ (W : World) (ty : TypeId), W = w7 → (Builtin.copy_ #[77, 77] ty #[.slice (some ⟨g, 0, none⟩) n cap, .slice (some ad) 1 c]).run Try.prog W = .ok (.int .i64 1) (w7.setCells g 0 (flat a b 1)) := (by rintro W ty rfl; exact copy_first a b n cap c g ad _ W ty H1.out HN.out hx7 hy7); clear hgl hcc ho5 hb hx7 hy7)))
 go_loopg [8] n (fun gg s8 wr => ∃ m : Nat, 1 ≤ m ∧ m ≤ n ∧ n - m ≤ gg ∧ s8 = .int .i64 m ∧ Aside0 (Kd.R k27 27 wr w.heap.size (fun _ => True) (.slice (some ⟨g, 0, none⟩) n cap) (List.replicate m ⟨a, b⟩ ++ List.replicate (n - m) z27)) ∧ Aside0 (Below w.heap.size w wr))
 case atStart =>
  obtain ⟨p, q⟩ := fills a b 1 0 w7 _ HN.out HB.out HG.out (by rw [List.length_replicate]; exact H1.out)
  refine ⟨1, Nat.le_refl _, H1.out, by omega, rfl, ⟨?_⟩, ⟨q⟩⟩
  rw [List.take_zero, List.nil_append, List.drop_replicate, Nat.zero_add] at p
  exact p
 case round =>
  clear HN HB
  obtain ⟨m, hm1, hmn, hgg, rfl, HR, HBB⟩ := hrel
  by_cases hlt : m < n
  ·have hltz : (m : Int) < (n : Int) := by omega
   obtain ⟨q, hq⟩ : ∃ q, Nat.min m (n - m) = q := ⟨_, rfl⟩
   have hq1 : q ≤ m := by rw [← hq]; exact Nat.min_le_left _ _
   have hq2 : q ≤ n - m := by rw [← hq]; exact Nat.min_le_right _ _
   have hq0 : 0 < q := by rw [← hq]; exact Nat.lt_min.2 ⟨by omega, by omega⟩
   have hcap := HNC.out
   have hlen : (List.replicate m (⟨a, b⟩ : S27) ++ List.replicate (n - m) z27).length = n := by rw [List.length_append, List.length_replicate, List.length_replicate]; omega
   have HRd := zA (Kd.R_drew HR.out)
   have hcp : ∀ (W : World) (ty : TypeId), W = wr.drew → (Builtin.copy_ #[77, 77] ty #[.slice (some ⟨g, m * 2, none⟩) (n - m) (cap - m), .slice (some ⟨g, 0, none⟩) m cap]).run Try.prog W = .ok (.int .i64 q) (wr.drew.setCells g (m * 2) (flat a b q)) := by
    rintro W ty rfl
    have := run_copy_sized (P := Try.prog) wr.drew 77 77 ty 27 g (m * 2) (n - m) (cap - m) ⟨g, 0, none⟩ m cap 2 (flat a b q) Try.underlying77 (by simpa using congrArg (fun o => o.map (fun q => q.2.1)) infoF) (by rw [flat_length, hq]) (by
     intro j v hj
     have hjl := (List.getElem?_eq_some_iff.1 hj).1
     rw [flat_length] at hjl
     have hv := flat_at a b q j v hj
     rw [add_at, Nat.zero_add, cell_of HRd.out j (by omega), hv]
     have e : rd_T27 (List.replicate m (⟨a, b⟩ : S27) ++ List.replicate (n - m) z27) ((j / 2 : Nat) : Int) = ⟨a, b⟩ := by
      have hjm : j / 2 < m := by omega
      unfold rd_T27
      rw [Int.toNat_natCast, List.getD_eq_getElem?_getD, List.getElem?_append_left (by rw [List.length_replicate]; exact hjm), List.getElem?_replicate, if_pos hjm]
      rfl
     rw [e]) (by
     intro j hj
     rw [flat_length] at hj
     rw [cell_of HRd.out (m * 2 + j) (by omega)]
     rfl) (by intro j hj; exact frozen_of HRd.out _) (flat_one a b q)
    rw [hq] at this
    exact this
   have HZ := zA (fills a b q m wr.drew _ HRd.out (below_drew1 HBB.out) HG.out (by rw [hlen]; omega))
   have pm : (0 ≤ (m : Int)) = True := eq_true (by omega)
   have qm : ((m : Int) ≤ (n : Int)) = True := eq_true (by omega)
   have qm1 : (m ≤ n) = True := eq_true hmn
   have qm2 : ((m : Int) ≤ (cap : Int)) = True := eq_true (by omega)
   have qm3 : (m ≤ cap) = True := eq_true (by omega)
   have qm4 : (cap = m) = False := eq_false (by omega)
   have qm5 : (m = cap) = False := eq_false (by omega)
   clear hlen
   go_wp2
   go_region
   all_goals go_wp2
   go_roundg (n - (m + q))
   case measure => omega
   case rel =>
    refine ⟨m + q, by omega, by omega, by omega, ?_, ⟨?_⟩, ⟨HZ.out.2⟩⟩
    ·congr 1
    ·have h := HZ.out.1
     have e1 : (List.replicate m (⟨a, b⟩ : S27) ++ List.replicate (n - m) z27).take m = List.replicate m ⟨a, b⟩ := by
      rw [List.take_left' (by rw [List.length_replicate])]
     have e2 : (List.replicate m (⟨a, b⟩ : S27) ++ List.replicate (n - m) z27).drop (m + q) = List.replicate (n - (m + q)) z27 := by
      rw [← List.drop_drop, List.drop_left' (by rw [List.length_replicate]), List.drop_replicate]
      congr 1
      omega
     rw [e1, e2, ← List.replicate_append_replicate.symm] at h
     exact h
  ·have hltz : ¬ (m : Int) < (n : Int) := by omega
   obtain rfl : m = n := by omega
   go_wp2
   go_ret
   refine ⟨_, rfl, ?_, HBB.out⟩
   have := HR.out
   rwa [Nat.sub_self, List.replicate_zero, List.append_nil] at this
end RepP
/-! ### impl_zero: function 131 -/
def impl_zero.f  : Option (Int × Int) := some (0, 1)
theorem impl_zero.calls  (r1 : Int) (r2 : Int) (w : World) (h : impl_zero.f  = some (r1, r2)) :
 Calls Try.prog 131 #[] w fun e w' => e = .returned (.agg #[.int .i64 r1, .int .i64 r2]) ∧ Below w.heap.size w w' := by
 have hu27 := Try.underlying27
 have HB := zA (Below.refl w.heap.size w)
 have H : (some (0, 1)) = some (r1, r2) := h
 clear h
 simp only [Option.some.injEq, Prod.mk.injEq] at H
 obtain ⟨rfl, rfl⟩ := H
 go_enter Try.func131, Try.ntmps131
 go_wp2_with (first | ((with_reducible refine gate_dst (N := 0) rfl ?_); refine zX 0 (#[.int .i64 0, .int .i64 0]) 27 ?_; intro gb355 hg w1 hbox hb; have BK355 := zA (hbox); have GW355 := zA (zG : w.heap.size ≤ gb355); have GE355 := zA (zG : w.heap.size ≤ gb355); replace HB := zA (below_step zB hb); clear hb hbox hg; obtain ⟨hcz2_0, hcz2_1, hfz2_0, hfz2_1⟩ := zC2 BK355))
 refine bodyPost_ret (results_cell_row rfl _ _ gb355 27 #[.int .i64 0, .int .i64 1] (0, 0) _ rfl (by refine blk_put (cs := #[.int .i64 0, .int .i64 0]) ?_ 1 _ rfl; refine blk_put (cs := #[.int .i64 0, .int .i64 0]) ?_ 0 _ rfl; exact zK) Try.underlying27 rfl (by kernel_rfl)) rfl ?_
 exact ⟨by rfl, zB⟩


/-! ### impl_letter: function 170 -/
def impl_letter.f (a0 : Int) : Option (ByteArray) := some (strOfNums (([(48 + ((a0) % 256)) % 256] : List Int)))
theorem impl_letter.calls (a0 : Int) (r : ByteArray) (w : World) (h : impl_letter.f a0 = some r) :
 Calls Try.prog 170 #[.int .i64 a0] w fun e w' => e = .returned (.string r) ∧ Below w.heap.size w w' := by
 have HB := zA (Below.refl w.heap.size w)
 have H : (some (strOfNums (([(48 + ((a0) % 256)) % 256] : List Int)))) = some r := h
 clear h
 obtain ⟨y356, hy356⟩ : ∃ y_ : List Int, y_ = (([(48 + ((a0) % 256)) % 256] : List Int)) := ⟨_, rfl⟩
 replace H : (some (strOfNums y356)) = some r := by (rw [hy356]; with_reducible exact H)
 have Ny356 := zA hy356
 clear hy356
 obtain rfl := Option.some.inj H
 go_enter Try.func170, Try.ntmps170
 go_wp2_with (first | ((with_reducible refine gate_dst (N := 6) rfl ?_); refine Kd.R_lit (Kd.int .u8) _ 5 ?hg (N := 6) ?hd (xs := ([(48 + ((a0) % 256)) % 256] : List Int)) (inner := [.int .u8 ((48 + ((a0) % 256)) % 256)]) (ok := fun _ => True) (okp := fun _ => True) ?hr ?hp (fun _ hk => hk) trivial (Below.refl _ _) (Nat.le_refl _) (by simp) ?_; (case hd => rfl); (case hg => rfl); (case hr => (go_simp; done)); (case hp => exact (Reps.one (show Kd.M (Kd.int .u8) _ _ _ ((48 + ((a0) % 256)) % 256) [.int .u8 ((48 + ((a0) % 256)) % 256)] from rfl) (Reps.none _ _))); intro v357 w2 ho3 hb hg_ hnew_; clear hg_ hnew_; (rw [← Ny356.out] at ho3); have HO358 := zA (Kd.R_lower ho3 (below_size zB)); replace HB := zA (below_step zB hb); clear hb ho3; have hcv4 := own_string (P := Try.prog) Try.underlying112 Try.underlying5 Try.underlying9 (Kd.own_of_R HO358.out)))
 go_ret
 exact ⟨by rfl, zB⟩

end Go.Proofs.Ytcklefgkbddlhaa.P
