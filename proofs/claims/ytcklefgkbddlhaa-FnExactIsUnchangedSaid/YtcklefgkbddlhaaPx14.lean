/- What a call of each Go function named below comes to is what the plain Lean function beside it says. Made by a program of this session out of the print of the translation; Lean checks it. -/
import Derived.Test.YtcklefgkbddlhaaPx0
import Derived.Test.YtcklefgkbddlhaaPx11
import Derived.Test.YtcklefgkbddlhaaPx13
import Derived.Test.YtcklefgkbddlhaaHand
import Derived.Test.YtcklefgkbddlhaaHandRows
namespace Go.Proofs.Ytcklefgkbddlhaa.P
open Go.RowKit Go.Proofs.YtcklefgkbddlhaaW.PrintWords Go.Proofs.YtcklefgkbddlhaaW.PrintLast Go.Proofs.YtcklefgkbddlhaaW.PrintMore
attribute [local go_sem] max2_int min2_int max_two min_two max_three min_three max_four min_four   -- for this text's walks alone
set_option linter.unusedVariables false
set_option linter.unusedSimpArgs false


/-! ### impl_IsSeries: function 57 -/
def impl_IsSeries.f (k : Nat) (a0_0 : Int) (a0_1 : Int) (l0_2 : List (S89)) : Option (Bool) := (impl_isLevel.f a0_0 a0_1).bind fun t323 => (if t323 = true then ((impl_areTerms.f k a0_0 a0_1 l0_2).bind fun t324 => (some t324)) else (some false))
theorem impl_IsSeries.mono : ∀ a0 a1 a2 k, LeO (impl_IsSeries.f k a0 a1 a2) (impl_IsSeries.f (k + 1) a0 a1 a2) := by
  intro a0 a1 a2 k
  unfold impl_IsSeries.f
  repeat' first
      | (with_reducible exact impl_areTerms.mono _ _ _ _)
      | (with_reducible exact LeO.refl _)
      | (with_reducible exact LeO.none _)
      | (with_reducible refine LeO.ite ?_ ?_)
      | (with_reducible refine LeO.bind ?_ (fun _ => ?_))
set_option maxHeartbeats 8000000 in
set_option maxRecDepth 100000 in
theorem impl_IsSeries.calls (k : Nat) (a0_0 : Int) (a0_1 : Int) (A0_2 : Option Addr) (c0_2 : Nat) (l0_2 : List (S89)) (r : Bool) (w : World) (hr0_2 : Kd.C k89 w A0_2 l0_2.length l0_2) (hc0_2 : l0_2.length ≤ c0_2) (h : impl_IsSeries.f k a0_0 a0_1 l0_2 = some r) :
    Calls Try.prog 57 #[.agg #[.int .i64 a0_0, .int .i64 a0_1, .slice A0_2 l0_2.length c0_2]] w fun e w' => e = .returned (.bool r) ∧ Below w.heap.size w w' := by
  have hu32 := Try.underlying32
  have HR0_2 := Aside0.mk hr0_2
  have HC0_2 := Aside0.mk hc0_2
  clear hr0_2 hc0_2
  have HB := Aside0.mk (Below.refl w.heap.size w)
  have H : ((impl_isLevel.f a0_0 a0_1).bind fun t323 => (if t323 = true then ((impl_areTerms.f k a0_0 a0_1 l0_2).bind fun t324 => (some t324)) else (some false))) = some r := h
  clear h
  replace H := Option.bind_eq_some_iff.mp H
  obtain ⟨t323, A20, H⟩ := H
  replace H : (if t323 = true then ((impl_areTerms.f k a0_0 a0_1 l0_2).bind fun t324 => (some t324)) else (some false)) = some r := H
  have A2 := Aside0.mk A20
  clear A20
  by_cases c3 : t323 = true
  · subst c3
    have H1 : ((impl_areTerms.f k a0_0 a0_1 l0_2).bind fun t324 => (some t324)) = some r := by rw [if_pos rfl] at H; exact H
    clear H
    have H := H1
    clear H1
    replace H := Option.bind_eq_some_iff.mp H
    obtain ⟨t324, A40, H⟩ := H
    replace H : (some t324) = some r := H
    have A4 := Aside0.mk A40
    clear A40
    obtain rfl := Option.some.inj H
    go_enter Try.func57, Try.ntmps57
    go_wp2_with (first | ((with_reducible refine gate_dst (N := 1) rfl ?_); refine zX 1 (#[.int .i64 a0_0, .int .i64 a0_1, .slice A0_2 l0_2.length c0_2]) 32 ?_; intro gb322 hg w5 hbox hb; have BK322 := Aside0.mk (hbox); have GW322 := Aside0.mk (zG : w.heap.size ≤ gb322); have GE322 := Aside0.mk (zG : w.heap.size ≤ gb322); replace HB := Aside0.mk (below_step zB hb); clear hb hbox hg; obtain ⟨hcz6_0, hcz6_1, hcz6_2, hfz6_0, hfz6_1, hfz6_2⟩ := zC3 BK322) | ((with_reducible refine gate_callee (f := 72) rfl ?_); refine goesL_ (some 7) rfl rfl Try.func72 (by kernel_rfl) rfl #[.int .i64 a0_0, .int .i64 a0_1] rfl zM ?_; (with_reducible refine (impl_isLevel.calls a0_0 a0_1 true _ A2.out).mono ?_); rintro e w' ⟨rfl, ⟨nd, rfl⟩⟩; refine ⟨_, rfl, ?_⟩) | (go_at_call 111; (with_reducible refine (impl_areTerms.calls k a0_0 a0_1 _ _ l0_2 t324 _ ?side1 ?side2 A4.out).mono ?_); (case side1 => repeat (first | exact (Kd.C_below HR0_2.out zB) | (with_reducible refine Kd.C_alloc ?_ _) | (with_reducible refine Kd.C_drewN ?_ _) | (with_reducible refine Kd.C_drew ?_))); (case side2 => exact HC0_2.out); rintro e w7 ⟨rfl, hb⟩; replace BK322 := Aside0.mk (zW BK322 hb); replace HB := Aside0.mk (below_step zB hb); (try clear hb); (try clear hb2); (try clear hk); (try clear hi)))
    go_ret
    exact ⟨by first | rfl | (simp [errW_none, errW_some] <;> rfl) | (simp [*, errW_none, errW_some] <;> rfl), zB⟩
  · replace c3 := Bool.eq_false_iff.mpr c3
    subst c3
    have H1 : (some false) = some r := by rw [if_neg (show ¬ (false = true) by decide)] at H; exact H
    clear H
    have H := H1
    clear H1
    obtain rfl := Option.some.inj H
    go_enter Try.func57, Try.ntmps57
    go_wp2_with (first | ((with_reducible refine gate_dst (N := 1) rfl ?_); refine zX 1 (#[.int .i64 a0_0, .int .i64 a0_1, .slice A0_2 l0_2.length c0_2]) 32 ?_; intro gb322 hg w8 hbox hb; have BK322 := Aside0.mk (hbox); have GW322 := Aside0.mk (zG : w.heap.size ≤ gb322); have GE322 := Aside0.mk (zG : w.heap.size ≤ gb322); replace HB := Aside0.mk (below_step zB hb); clear hb hbox hg; obtain ⟨hcz9_0, hcz9_1, hcz9_2, hfz9_0, hfz9_1, hfz9_2⟩ := zC3 BK322) | ((with_reducible refine gate_callee (f := 72) rfl ?_); refine goesL_ (some 7) rfl rfl Try.func72 (by kernel_rfl) rfl #[.int .i64 a0_0, .int .i64 a0_1] rfl zM ?_; (with_reducible refine (impl_isLevel.calls a0_0 a0_1 false _ A2.out).mono ?_); rintro e w' ⟨rfl, ⟨nd, rfl⟩⟩; refine ⟨_, rfl, ?_⟩))
    go_ret
    exact ⟨by first | rfl | (simp [errW_none, errW_some] <;> rfl) | (simp [*, errW_none, errW_some] <;> rfl), zB⟩


/-! ### impl_letter: function 170 -/
def impl_letter.f (a0 : Int) : Option (ByteArray) := some (strOfNums (([(48 + ((a0) % 256)) % 256] : List Int)))
set_option maxHeartbeats 8000000 in
set_option maxRecDepth 100000 in
theorem impl_letter.calls (a0 : Int) (r : ByteArray) (w : World) (h : impl_letter.f a0 = some r) :
    Calls Try.prog 170 #[.int .i64 a0] w fun e w' => e = .returned (.string r) ∧ Below w.heap.size w w' := by
  have HB := Aside0.mk (Below.refl w.heap.size w)
  have H : (some (strOfNums (([(48 + ((a0) % 256)) % 256] : List Int)))) = some r := h
  clear h
  obtain ⟨y325, hy325⟩ : ∃ y_ : List Int, y_ = (([(48 + ((a0) % 256)) % 256] : List Int)) := ⟨_, rfl⟩
  replace H : (some (strOfNums y325)) = some r := by first | (rw [hy325]; with_reducible exact H) | (have H2_ := (Option.bind_some _ _).symm.trans H; rw [hy325]; with_reducible exact H2_) | (have H2_ := (Option.bind_some _ _).symm.trans H; with_reducible exact H2_) | with_reducible exact H | (rw [hy325]; exact H) | exact H
  have Ny325 := Aside0.mk hy325
  clear hy325
  obtain rfl := Option.some.inj H
  go_enter Try.func170, Try.ntmps170
  go_wp2_with (first | ((with_reducible refine gate_dst (N := 6) rfl ?_); refine Kd.R_lit (Kd.int .u8) _ 5 ?hg (N := 6) ?hd (xs := ([(48 + ((a0) % 256)) % 256] : List Int)) (inner := [.int .u8 ((48 + ((a0) % 256)) % 256)]) (ok := fun _ => True) (okp := fun _ => True) ?hr ?hp (fun _ hk => hk) trivial (Below.refl _ _) (Nat.le_refl _) (by simp) ?_; (case hd => rfl); (case hg => rfl); (case hr => first | (go_simp; done) | (go_simp; rfl)); (case hp => exact (Reps.one (show Kd.M (Kd.int .u8) _ _ _ ((48 + ((a0) % 256)) % 256) [.int .u8 ((48 + ((a0) % 256)) % 256)] from rfl) (Reps.none _ _))); intro v326 w2 ho3 hb hg_ hnew_; clear hg_ hnew_; (first | rw [← Ny325.out] at ho3 | (simp only [Int.reduceToNat] at ho3; rw [← Ny325.out] at ho3)); have HO327 := Aside0.mk (Kd.R_lower ho3 (below_size zB)); replace HB := Aside0.mk (below_step zB hb); clear hb ho3; have hcv4 := own_string (P := Try.prog) Try.underlying112 Try.underlying5 Try.underlying9 (Kd.own_of_R HO327.out)))
  go_ret
  exact ⟨by first | rfl | (simp [errW_none, errW_some] <;> rfl) | (simp [*, errW_none, errW_some] <;> rfl), zB⟩


/-! ### impl_words: function 149 -/
mutual
def impl_words.l0 : Nat → Int → List ByteArray → Int → Int → Option (List ByteArray)
  | 0, _, _, _, _ => none
  | k + 1, x0, x5, x11, x12 => if x12 < x11 then (impl_words.l1 k x0 ([] : List ByteArray) x11 x12 x5 (x5.length : Int) 0) else (some x5)
def impl_words.l1 : Nat → Int → List ByteArray → Int → Int → List ByteArray → Int → Int → Option (List ByteArray)
  | 0, _, _, _, _, _, _, _ => none
  | k + 1, x0, x6, x11, x12, x14, x15, x16 => if x16 < x15 then (if 0 ≤ x16 then (if x16 < (x14.length : Int) then (impl_words.l2 k x0 x6 (rdOf ByteArray.empty x14 x16) x11 x12 x14 x15 x16 x0 0) else (none)) else (none)) else (impl_words.l0 k x0 x6 x11 (wrap64 (x12 + 1)))
def impl_words.l2 : Nat → Int → List ByteArray → ByteArray → Int → Int → List ByteArray → Int → Int → Int → Int → Option (List ByteArray)
  | 0, _, _, _, _, _, _, _, _, _, _ => none
  | k + 1, x0, x6, x8, x11, x12, x14, x15, x16, x20, x21 => if x21 < x20 then ((impl_letter.f x21).bind fun t332 => (if x8.size + t332.size ≤ 9223372036854775807 then (if x6.length < 8796093022208 then (impl_words.l2 k x0 (x6 ++ [x8 ++ t332]) x8 x11 x12 x14 x15 x16 x20 (wrap64 (x21 + 1))) else (none)) else (none))) else (impl_words.l1 k x0 x6 x11 x12 x14 x15 (wrap64 (x16 + 1)))
end
def impl_words.f (k : Nat) (a0 : Int) (a1 : Int) : Option (List ByteArray) := impl_words.l0 k a0 (([(⟨#[]⟩ : ByteArray)] : List ByteArray)) a1 0
theorem impl_words.mono_l : ∀ k, (∀ y0 y1 y2 y3, LeO (impl_words.l0 k y0 y1 y2 y3) (impl_words.l0 (k + 1) y0 y1 y2 y3)) ∧ (∀ y0 y1 y2 y3 y4 y5 y6, LeO (impl_words.l1 k y0 y1 y2 y3 y4 y5 y6) (impl_words.l1 (k + 1) y0 y1 y2 y3 y4 y5 y6)) ∧ (∀ y0 y1 y2 y3 y4 y5 y6 y7 y8 y9, LeO (impl_words.l2 k y0 y1 y2 y3 y4 y5 y6 y7 y8 y9) (impl_words.l2 (k + 1) y0 y1 y2 y3 y4 y5 y6 y7 y8 y9))
  | 0 => ⟨fun _ _ _ _ r h => by simp [impl_words.l0] at h, fun _ _ _ _ _ _ _ r h => by simp [impl_words.l1] at h, fun _ _ _ _ _ _ _ _ _ _ r h => by simp [impl_words.l2] at h⟩
  | k + 1 => by
    obtain ⟨ih0, ih1, ih2⟩ := impl_words.mono_l k
    refine ⟨?_, ?_, ?_⟩
    · intro y0 y1 y2 y3
      unfold impl_words.l0
      repeat' first
      | (with_reducible exact ih0 _ _ _ _)
      | (with_reducible exact ih1 _ _ _ _ _ _ _)
      | (with_reducible exact ih2 _ _ _ _ _ _ _ _ _ _)
      | (with_reducible exact LeO.refl _)
      | (with_reducible exact LeO.none _)
      | (with_reducible refine LeO.ite ?_ ?_)
      | (with_reducible refine LeO.bind ?_ (fun _ => ?_))
    · intro y0 y1 y2 y3 y4 y5 y6
      unfold impl_words.l1
      repeat' first
      | (with_reducible exact ih0 _ _ _ _)
      | (with_reducible exact ih1 _ _ _ _ _ _ _)
      | (with_reducible exact ih2 _ _ _ _ _ _ _ _ _ _)
      | (with_reducible exact LeO.refl _)
      | (with_reducible exact LeO.none _)
      | (with_reducible refine LeO.ite ?_ ?_)
      | (with_reducible refine LeO.bind ?_ (fun _ => ?_))
    · intro y0 y1 y2 y3 y4 y5 y6 y7 y8 y9
      unfold impl_words.l2
      repeat' first
      | (with_reducible exact ih0 _ _ _ _)
      | (with_reducible exact ih1 _ _ _ _ _ _ _)
      | (with_reducible exact ih2 _ _ _ _ _ _ _ _ _ _)
      | (with_reducible exact LeO.refl _)
      | (with_reducible exact LeO.none _)
      | (with_reducible refine LeO.ite ?_ ?_)
      | (with_reducible refine LeO.bind ?_ (fun _ => ?_))
theorem impl_words.mono : ∀ a0 a1 k, LeO (impl_words.f k a0 a1) (impl_words.f (k + 1) a0 a1) := by
  intro a0 a1 k
  obtain ⟨ih0, ih1, ih2⟩ := impl_words.mono_l k
  unfold impl_words.f
  repeat' first
      | (with_reducible exact ih0 _ _ _ _)
      | (with_reducible exact ih1 _ _ _ _ _ _ _)
      | (with_reducible exact ih2 _ _ _ _ _ _ _ _ _ _)
      | (with_reducible exact LeO.refl _)
      | (with_reducible exact LeO.none _)
      | (with_reducible refine LeO.ite ?_ ?_)
      | (with_reducible refine LeO.bind ?_ (fun _ => ?_))
set_option maxHeartbeats 8000000 in
set_option maxRecDepth 100000 in
theorem impl_words.calls (k : Nat) (a0 : Int) (a1 : Int) (r : List ByteArray) (w : World) (h : impl_words.f k a0 a1 = some r) :
    Calls Try.prog 149 #[.int .i64 a0, .int .i64 a1] w fun e w' => ∃ v0_ : Value, e = .returned (v0_) ∧ Kd.R Kd.string 9 w' w.heap.size (fun _ => True) v0_ r ∧ Below w.heap.size w w' := by
  have HB := Aside0.mk (Below.refl w.heap.size w)
  have H : (impl_words.l0 k a0 (([(⟨#[]⟩ : ByteArray)] : List ByteArray)) a1 0) = some r := h
  clear h
  obtain ⟨y328, hy328⟩ : ∃ y_ : List ByteArray, y_ = (([(⟨#[]⟩ : ByteArray)] : List ByteArray)) := ⟨_, rfl⟩
  replace H : (impl_words.l0 k a0 y328 a1 0) = some r := by first | (rw [hy328]; with_reducible exact H) | (have H2_ := (Option.bind_some _ _).symm.trans H; rw [hy328]; with_reducible exact H2_) | (have H2_ := (Option.bind_some _ _).symm.trans H; with_reducible exact H2_) | with_reducible exact H | (rw [hy328]; exact H) | exact H
  have Ny328 := Aside0.mk hy328
  clear hy328
  have H' := Aside0.mk H
  clear H
  go_enter Try.func149, Try.ntmps149
  go_wp2_with (first | ((with_reducible refine gate_dst (N := 10) rfl ?_); refine Kd.R_lit Kd.string _ 9 ?hg (N := 10) ?hd (xs := ([(⟨#[]⟩ : ByteArray)] : List ByteArray)) (inner := [.string (⟨#[]⟩ : ByteArray)]) (ok := fun _ => True) (okp := fun _ => True) ?hr ?hp (fun _ hk => hk) trivial (Below.refl _ _) (Nat.le_refl _) (by simp) ?_; (case hd => rfl); (case hg => rfl); (case hr => first | (go_simp; done) | (go_simp; rfl)); (case hp => exact (Reps.one (show Kd.M Kd.string _ _ _ (⟨#[]⟩ : ByteArray) [.string (⟨#[]⟩ : ByteArray)] from rfl) (Reps.none _ _))); intro v329 w3 ho4 hb hg_ hnew_; clear hg_ hnew_; (first | rw [← Ny328.out] at ho4 | (simp only [Int.reduceToNat] at ho4; rw [← Ny328.out] at ho4)); have HO330 := Aside0.mk (Kd.R_lower ho4 (below_size zB)); replace HB := Aside0.mk (below_step zB hb); clear hb ho4))
  go_loopg [5, 12] k (fun kq v5 v12 w' => ∃ (x5_1 : List ByteArray) (x12_1 : Int), v12 = .int .i64 x12_1 ∧ Aside0 (impl_words.l0 kq a0 x5_1 a1 x12_1 = some r) ∧ Aside0 (kq ≤ k) ∧ Aside0 (Kd.R Kd.string 9 w' w.heap.size (fun _ => True) v5 x5_1) ∧ Aside0 (Below w.heap.size w w'))
  case atStart => exact ⟨(y328), (0), (by first | rfl | (simp; done) | (simp [*]; done)), H', ⟨Nat.le_refl _⟩, ⟨zR⟩, ⟨zB⟩⟩
  case round =>
    clear H'
    obtain ⟨x5_1, x12_1, rfl, HA, HK1, HO_5, HB⟩ := hrel
    cases gk with
    | zero => exact absurd HA.out (by simp [impl_words.l0])
    | succ k1 =>
      have H := HA.out
      clear HA
      simp only [impl_words.l0] at H
      by_cases c5 : x12_1 < a1
      · rw [if_pos c5] at H
        have c5b0 : decide (x12_1 < a1) = true := decide_eq_true c5
        clear c5
        have H' := Aside0.mk H
        clear H
        obtain ⟨Ao6, co6, eo6⟩ := Kd.R_slice HO_5.out
        subst eo6
        go_wp2
        go_loopg [6, 16] k1 (fun kq v6 v16 w' => ∃ (x6_2 : List ByteArray) (x16_2 : Int), v16 = .int .i64 x16_2 ∧ Aside0 (impl_words.l1 kq a0 x6_2 a1 x12_1 x5_1 (x5_1.length : Int) x16_2 = some r) ∧ Aside0 (kq ≤ k1) ∧ Aside0 (Kd.R Kd.string 9 w' w.heap.size (fun k_ => some k_ ≠ ((.slice Ao6 x5_1.length co6) : Value).ownBlock) v6 x6_2) ∧ Aside0 (Kd.R Kd.string 9 w' w.heap.size (fun k_ => some k_ ≠ (v6 : Value).ownBlock) (.slice Ao6 x5_1.length co6) x5_1) ∧ Aside0 (Below w.heap.size w w'))
        case atStart => exact ⟨(([] : List ByteArray)), (0), (by first | rfl | (simp; done) | (simp [*]; done)), H', ⟨Nat.le_refl _⟩, ⟨by first | exact Kd.R_nil _ _ _ _ _ | exact Kd.N_nil _ _ _ _ _ | exact Kd.V_nil _ _ _ _ _ | exact Kd.Q_nil _ _ _ _ _ | exact Kd.S_nil _ _ _ _ _⟩, ⟨by (with_reducible repeat (first | apply Kd.R_alloc | apply Kd.R_drewN | apply Kd.R_drew)); exact Kd.R_mono HO_5.out (fun _ hk => (by simp [Value.ownBlock]))⟩, ⟨zB⟩⟩
        case round =>
          clear H'
          obtain ⟨x6_2, x16_2, rfl, HA, HK2, HO_6, HO_14, HB⟩ := hrel
          cases gk with
          | zero => exact absurd HA.out (by simp [impl_words.l1])
          | succ k2 =>
            have H := HA.out
            clear HA
            simp only [impl_words.l1] at H
            by_cases c7 : x16_2 < (x5_1.length : Int)
            ·rw [if_pos c7] at H
             have c7b0 : decide (x16_2 < (x5_1.length : Int)) = true := decide_eq_true c7
             clear c7
             by_cases c8 : 0 ≤ x16_2
             ·rw [if_pos c8] at H
              have c8b0 : decide (0 ≤ x16_2) = true := decide_eq_true c8
              clear c8
              by_cases c9 : x16_2 < (x5_1.length : Int)
              ·rw [if_pos c9] at H
               have c9b0 : decide (x16_2 < (x5_1.length : Int)) = true := decide_eq_true c9
               clear c9
               have H' := Aside0.mk H
               clear H
               have p331 : 0 ≤ (x16_2 : Int) := zD
               have q331 : x16_2 < (x5_1.length : Int) := zD
               obtain ⟨ad331, e331, hx331_0⟩ := Kd.at_string (Kd.R_reads' HO_14.out).2.2 x16_2 p331 q331
               cases e331
               replace p331 := eq_true p331
               replace q331 := eq_true q331
               go_wp2
               go_loopg [6, 21] k2 (fun kq v6 v21 w' => ∃ (x6_3 : List ByteArray) (x21_3 : Int), v21 = .int .i64 x21_3 ∧ Aside0 (impl_words.l2 kq a0 x6_3 (rdOf ByteArray.empty x5_1 x16_2) a1 x12_1 x5_1 (x5_1.length : Int) x16_2 a0 x21_3 = some r) ∧ Aside0 (kq ≤ k2) ∧ Aside0 (Kd.R Kd.string 9 w' w.heap.size (fun k_ => some k_ ≠ ((.slice (some ad331) x5_1.length co6) : Value).ownBlock) v6 x6_3) ∧ Aside0 (Kd.R Kd.string 9 w' w.heap.size (fun k_ => some k_ ≠ (v6 : Value).ownBlock) (.slice (some ad331) x5_1.length co6) x5_1) ∧ Aside0 (Below w.heap.size w w'))
               case atStart => exact ⟨(x6_2), (0), (by first | rfl | (simp; done) | (simp [*]; done)), H', ⟨Nat.le_refl _⟩, ⟨zR⟩, ⟨zR⟩, ⟨zB⟩⟩
               case round =>
                clear H'
                obtain ⟨x6_3, x21_3, rfl, HA, HK3, HO_6, HO_14, HB⟩ := hrel
                cases gk with
                | zero => exact absurd HA.out (by simp [impl_words.l2])
                | succ k3 =>
                 have H := HA.out
                 clear HA
                 simp only [impl_words.l2] at H
                 by_cases c10 : x21_3 < a0
                 ·rw [if_pos c10] at H
                  have c10b0 : decide (x21_3 < a0) = true := decide_eq_true c10
                  clear c10
                  replace H := Option.bind_eq_some_iff.mp H
                  obtain ⟨t332, A110, H⟩ := H
                  replace H : (if (rdOf ByteArray.empty x5_1 x16_2).size + t332.size ≤ 9223372036854775807 then (if x6_3.length < 8796093022208 then (impl_words.l2 k3 a0 (x6_3 ++ [(rdOf ByteArray.empty x5_1 x16_2) ++ t332]) (rdOf ByteArray.empty x5_1 x16_2) a1 x12_1 x5_1 (x5_1.length : Int) x16_2 a0 (wrap64 (x21_3 + 1))) else (none)) else (none)) = some r := H
                  have A11 := Aside0.mk A110
                  clear A110
                  by_cases c12 : (rdOf ByteArray.empty x5_1 x16_2).size + t332.size ≤ 9223372036854775807
                  ·rw [if_pos c12] at H
                   have c12b0 := eq_true c12
                   have c12b1 : decide ((rdOf ByteArray.empty x5_1 x16_2).size + t332.size ≤ 9223372036854775807) = true := decide_eq_true c12
                   try have c12b2 : (9223372036854775807 < (rdOf ByteArray.empty x5_1 x16_2).size + t332.size) = False := eq_false (Nat.not_lt.2 c12)
                   by_cases c13 : x6_3.length < 8796093022208
                   ·rw [if_pos c13] at H
                    have LMc13 := Aside0.mk c13
                    clear c13
                    obtain ⟨y333, hy333⟩ : ∃ y_ : List ByteArray, y_ = (x6_3 ++ [(rdOf ByteArray.empty x5_1 x16_2) ++ t332]) := ⟨_, rfl⟩
                    replace H : (impl_words.l2 k3 a0 y333 (rdOf ByteArray.empty x5_1 x16_2) a1 x12_1 x5_1 (x5_1.length : Int) x16_2 a0 (wrap64 (x21_3 + 1))) = some r := by first | (rw [hy333]; with_reducible exact H) | (have H2_ := (Option.bind_some _ _).symm.trans H; rw [hy333]; with_reducible exact H2_) | (have H2_ := (Option.bind_some _ _).symm.trans H; with_reducible exact H2_) | with_reducible exact H | (rw [hy333]; exact H) | exact H
                    have Ny333 := Aside0.mk hy333
                    clear hy333
                    have H' := Aside0.mk H
                    clear H
                    go_wp2_with (first | ((with_reducible refine gate_callee (f := 170) rfl ?_); refine goesL_ (some 27) rfl rfl Try.func170 (by kernel_rfl) rfl #[.int .i64 x21_3] rfl zM ?_; (with_reducible refine (impl_letter.calls x21_3 t332 _ A11.out).mono ?_); rintro e w14 ⟨rfl, hb⟩; refine ⟨_, rfl, ?_⟩; replace HO_6 := Aside0.mk (Kd.R_below HO_6.out hb); replace HO_14 := Aside0.mk (Kd.R_below HO_14.out hb); replace HB := Aside0.mk (below_step zB hb); (try clear hb); (try clear hb2); (try clear hk); (try clear hi)) | ((with_reducible refine gate_builtin (b := .append) (xs := #[.tmp 24, .tmp 29]) rfl ?_); at_builtin; refine Kd.R_append Kd.string (w0 := w) w.heap.size rfl (.tmp 24) (.tmp 29) 151 9 (.string ⟨#[]⟩) 16 rfl Try.underlying151 info9 rfl (by decide) (by omega) u6 x6_3 ((rdOf ByteArray.empty x5_1 x16_2) ++ t332) [.string ((rdOf ByteArray.empty x5_1 x16_2) ++ t332)] (fun k_ => some k_ ≠ (.slice (some ad331) x5_1.length co6 : Value).ownBlock) (fun _ => False) rfl rfl ?aP (fun _ hk => hk.elim) ?aF ?aO ?aB ?aS ?aL ?_; (case aP => exact rfl); (case aB => exact zB); (case aF => exact (fun k_ hk => Kd.fresh' (Kd.R_lt HO_14.out) k_ hk)); (case aO => exact zR); (case aS => exact (below_size zB)); (case aL => have := LMc13.out; omega); intro v334 w15 ho hb hg hat; rw [← Ny333.out] at ho; have HO335 := Aside0.mk (ho); replace HO_14 := Aside0.mk (Kd.R_after (ok := (fun _ => True)) (by (with_reducible repeat (first | apply Kd.R_alloc | apply Kd.R_drewN | apply Kd.R_drew)); exact Kd.R_mono HO_14.out (fun _ hk => ⟨trivial, hk⟩)) hg hat); replace HB := Aside0.mk (hb); clear HO_6; clear ho hb hg hat))
                    go_roundg k3
                    case measure => have := HK1.out; have := HK2.out; have := HK3.out; omega
                    case rel => exact ⟨(y333), (wrap64 (x21_3 + 1)), (by first | rfl | (simp; done) | (simp [*]; done)), H', ⟨by have := HK1.out; have := HK2.out; have := HK3.out; omega⟩, ⟨zR⟩, ⟨by (with_reducible repeat (first | apply Kd.R_alloc | apply Kd.R_drewN | apply Kd.R_drew)); exact Kd.R_mono HO_14.out (fun _ hk => hk.2)⟩, ⟨zB⟩⟩
                   ·rw [if_neg c13] at H
                    exact absurd H (by simp)
                  ·rw [if_neg c12] at H
                   exact absurd H (by simp)
                 ·rw [if_neg c10] at H
                  have c10b0 : decide (x21_3 < a0) = false := decide_eq_false c10
                  clear c10
                  have H' := Aside0.mk H
                  clear H
                  go_wp2
                  go_roundg k3
                  case measure => have := HK1.out; have := HK2.out; have := HK3.out; omega
                  case rel => exact ⟨(x6_3), (wrap64 (x16_2 + 1)), (by first | rfl | (simp; done) | (simp [*]; done)), H', ⟨by have := HK1.out; have := HK2.out; have := HK3.out; omega⟩, ⟨zR⟩, ⟨zR⟩, ⟨zB⟩⟩
              ·rw [if_neg c9] at H
               exact absurd H (by simp)
             ·rw [if_neg c8] at H
              exact absurd H (by simp)
            ·rw [if_neg c7] at H
             have c7b0 : decide (x16_2 < (x5_1.length : Int)) = false := decide_eq_false c7
             clear c7
             have H' := Aside0.mk H
             clear H
             go_wp2
             go_roundg k2
             case measure => have := HK1.out; have := HK2.out; omega
             case rel => exact ⟨(x6_2), (wrap64 (x12_1 + 1)), (by first | rfl | (simp; done) | (simp [*]; done)), H', ⟨by have := HK1.out; have := HK2.out; omega⟩, ⟨by (with_reducible repeat (first | apply Kd.R_alloc | apply Kd.R_drewN | apply Kd.R_drew)); exact Kd.R_mono HO_6.out (fun _ hk => trivial)⟩, ⟨zB⟩⟩
      · rw [if_neg c5] at H
        have c5b0 : decide (x12_1 < a1) = false := decide_eq_false c5
        clear c5
        obtain rfl := Option.some.inj H
        go_wp2
        go_ret
        exact ⟨_, by first | rfl | (simp [errW_none, errW_some] <;> rfl) | (simp [*, errW_none, errW_some] <;> rfl), zR, zB⟩


/-! ### impl_allWords: function 132 -/
def impl_allWords.l0 : Nat → Int → List ByteArray → Int → Int → Option (List ByteArray)
  | 0, _, _, _, _ => none
  | k + 1, x0, x5, x8, x9 => if x9 < x8 then ((impl_words.f k x0 x9).bind fun t336 => (if x5.length + t336.length < 8796093022208 then (impl_allWords.l0 k x0 (x5 ++ t336) x8 (wrap64 (x9 + 1))) else (none))) else (some x5)
def impl_allWords.f (k : Nat) (a0 : Int) (a1 : Int) : Option (List ByteArray) := impl_allWords.l0 k a0 ([] : List ByteArray) (wrap64 (a1 + 1)) 0
theorem impl_allWords.mono_l : ∀ k, (∀ y0 y1 y2 y3, LeO (impl_allWords.l0 k y0 y1 y2 y3) (impl_allWords.l0 (k + 1) y0 y1 y2 y3))
  | 0 => fun _ _ _ _ r h => by simp [impl_allWords.l0] at h
  | k + 1 => by
    have ih0 := impl_allWords.mono_l k
    · intro y0 y1 y2 y3
      unfold impl_allWords.l0
      repeat' first
      | (with_reducible exact ih0 _ _ _ _)
      | (with_reducible exact impl_words.mono _ _ _)
      | (with_reducible exact LeO.refl _)
      | (with_reducible exact LeO.none _)
      | (with_reducible refine LeO.ite ?_ ?_)
      | (with_reducible refine LeO.bind ?_ (fun _ => ?_))
theorem impl_allWords.mono : ∀ a0 a1 k, LeO (impl_allWords.f k a0 a1) (impl_allWords.f (k + 1) a0 a1) := by
  intro a0 a1 k
  have ih0 := impl_allWords.mono_l k
  unfold impl_allWords.f
  repeat' first
      | (with_reducible exact ih0 _ _ _ _)
      | (with_reducible exact impl_words.mono _ _ _)
      | (with_reducible exact LeO.refl _)
      | (with_reducible exact LeO.none _)
      | (with_reducible refine LeO.ite ?_ ?_)
      | (with_reducible refine LeO.bind ?_ (fun _ => ?_))
set_option maxHeartbeats 8000000 in
set_option maxRecDepth 100000 in
theorem impl_allWords.calls (k : Nat) (a0 : Int) (a1 : Int) (r : List ByteArray) (w : World) (h : impl_allWords.f k a0 a1 = some r) :
    Calls Try.prog 132 #[.int .i64 a0, .int .i64 a1] w fun e w' => ∃ v0_ : Value, e = .returned (v0_) ∧ Kd.R Kd.string 9 w' w.heap.size (fun _ => True) v0_ r ∧ Below w.heap.size w w' := by
  have HB := Aside0.mk (Below.refl w.heap.size w)
  have H : (impl_allWords.l0 k a0 ([] : List ByteArray) (wrap64 (a1 + 1)) 0) = some r := h
  clear h
  have H' := Aside0.mk H
  clear H
  go_enter Try.func132, Try.ntmps132
  go_wp2
  go_loopg [5, 9] k (fun kq v5 v9 w' => ∃ (x5_1 : List ByteArray) (x9_1 : Int), v9 = .int .i64 x9_1 ∧ Aside0 (impl_allWords.l0 kq a0 x5_1 (wrap64 (a1 + 1)) x9_1 = some r) ∧ Aside0 (kq ≤ k) ∧ Aside0 (Kd.R Kd.string 9 w' w.heap.size (fun _ => True) v5 x5_1) ∧ Aside0 (Below w.heap.size w w'))
  case atStart => exact ⟨(([] : List ByteArray)), (0), (by first | rfl | (simp; done) | (simp [*]; done)), H', ⟨Nat.le_refl _⟩, ⟨by first | exact Kd.R_nil _ _ _ _ _ | exact Kd.N_nil _ _ _ _ _ | exact Kd.V_nil _ _ _ _ _ | exact Kd.Q_nil _ _ _ _ _ | exact Kd.S_nil _ _ _ _ _⟩, ⟨zB⟩⟩
  case round =>
    clear H'
    obtain ⟨x5_1, x9_1, rfl, HA, HK1, HO_5, HB⟩ := hrel
    cases gk with
    | zero => exact absurd HA.out (by simp [impl_allWords.l0])
    | succ k1 =>
      have H := HA.out
      clear HA
      simp only [impl_allWords.l0] at H
      by_cases c3 : x9_1 < (wrap64 (a1 + 1))
      · rw [if_pos c3] at H
        have c3b0 : decide (x9_1 < (wrap64 (a1 + 1))) = true := decide_eq_true c3
        clear c3
        replace H := Option.bind_eq_some_iff.mp H
        obtain ⟨t336, A40, H⟩ := H
        replace H : (if x5_1.length + t336.length < 8796093022208 then (impl_allWords.l0 k1 a0 (x5_1 ++ t336) (wrap64 (a1 + 1)) (wrap64 (x9_1 + 1))) else (none)) = some r := H
        have A4 := Aside0.mk A40
        clear A40
        by_cases c5 : x5_1.length + t336.length < 8796093022208
        · rw [if_pos c5] at H
          have LMc5 := Aside0.mk c5
          clear c5
          obtain ⟨y339, hy339⟩ : ∃ y_ : List ByteArray, y_ = (x5_1 ++ t336) := ⟨_, rfl⟩
          replace H : (impl_allWords.l0 k1 a0 y339 (wrap64 (a1 + 1)) (wrap64 (x9_1 + 1))) = some r := by first | (rw [hy339]; with_reducible exact H) | (have H2_ := (Option.bind_some _ _).symm.trans H; rw [hy339]; with_reducible exact H2_) | (have H2_ := (Option.bind_some _ _).symm.trans H; with_reducible exact H2_) | with_reducible exact H | (rw [hy339]; exact H) | exact H
          have Ny339 := Aside0.mk hy339
          clear hy339
          have H' := Aside0.mk H
          clear H
          go_wp2_with (first | ((with_reducible refine gate_callee (f := 149) rfl ?_); refine goesL_ (some 15) rfl rfl Try.func149 (by kernel_rfl) rfl #[.int .i64 a0, .int .i64 x9_1] rfl zM ?_; (with_reducible refine (impl_words.calls k1 a0 x9_1 t336 _ A4.out).mono ?_); rintro e w6 ⟨v337, rfl, ho0, hb⟩; refine ⟨_, rfl, ?_⟩; have HO338 := Aside0.mk (Kd.R_lower (Kd.R_new' ho0 (Kd.R_lt HO_5.out)) (below_size zB)); replace HO_5 := Aside0.mk (Kd.R_elder' zR (Kd.R_base ho0) hb); replace HB := Aside0.mk (below_step zB hb); (try clear hb); (try clear hb2); (try clear hk); (try clear hi); (try clear ho0); obtain ⟨Ao8, co8, eo8⟩ := Kd.R_slice HO338.out; subst eo8) | ((with_reducible refine gate_builtin (b := .append) (xs := #[.tmp 12, .tmp 15]) rfl ?_); at_builtin; refine Kd.R_append_rows Kd.string (w0 := w) w.heap.size rfl (.tmp 12) (.tmp 15) 151 9 (.string ⟨#[]⟩) 16 rfl Try.underlying151 info9 rfl (by decide) (by omega) u5 x5_1 t336 _ _ _ (fun k_ => some k_ ≠ (.slice Ao8 t336.length co8 : Value).ownBlock) (fun _ => False) rfl rfl ?aO ?aR (fun _ _ h => h) (fun _ h => h.elim) ?aF ?aB ?aS ?aL ?_; (case aR => repeat (first | exact (Kd.R_reads' HO338.out).2.2 | (with_reducible refine Kd.C_alloc ?_ _) | (with_reducible refine Kd.C_drewN ?_ _) | (with_reducible refine Kd.C_drew ?_))); (case aB => exact zB); (case aF => exact (fun k_ hk => Kd.fresh' (Kd.R_lt HO338.out) k_ hk)); (case aO => exact (by (with_reducible repeat (first | apply Kd.R_alloc | apply Kd.R_drewN | apply Kd.R_drew)); exact Kd.R_mono HO_5.out (fun _ hk => hk.2))); (case aS => exact (below_size zB)); (case aL => have := LMc5.out; omega); intro v340 w7 ho hb hg hat; rw [← Ny339.out] at ho; have HO341 := Aside0.mk (ho); replace HO338 := Aside0.mk (Kd.R_after (ok := (fun _ => True)) zR hg hat); replace HB := Aside0.mk (hb); clear HO_5; clear ho hb hg hat))
          go_roundg k1
          case measure => have := HK1.out; omega
          case rel => exact ⟨(y339), (wrap64 (x9_1 + 1)), (by first | rfl | (simp; done) | (simp [*]; done)), H', ⟨by have := HK1.out; omega⟩, ⟨by (with_reducible repeat (first | apply Kd.R_alloc | apply Kd.R_drewN | apply Kd.R_drew)); exact Kd.R_mono HO341.out (fun _ hk => trivial)⟩, ⟨zB⟩⟩
        · rw [if_neg c5] at H
          exact absurd H (by simp)
      · rw [if_neg c3] at H
        have c3b0 : decide (x9_1 < (wrap64 (a1 + 1))) = false := decide_eq_false c3
        clear c3
        obtain rfl := Option.some.inj H
        go_wp2
        go_ret
        exact ⟨_, by first | rfl | (simp [errW_none, errW_some] <;> rfl) | (simp [*, errW_none, errW_some] <;> rfl), zR, zB⟩

-- NOT PRINTED: function 88 (impl_table_series)

-- NOT PRINTED: function 75 (impl_table_told)

-- NOT PRINTED: function 168 (slices_IndexFunc_int64_int64_168)

-- NOT PRINTED: function 146 (slices_ContainsFunc_int64_int64_146)

-- NOT PRINTED: function 162 (slices_IndexFunc_int64_int64_162)

-- NOT PRINTED: function 125 (slices_ContainsFunc_int64_int64_125)


/-! ### impl_allUpTo: function 148, by hand -/
set_option maxHeartbeats 1000000 in
theorem impl_allUpTo_ask (m x : Int) (B : Nat) (W : World) (hc : W.cell? ⟨B, 0, none⟩ = some (.int .i64 m)) :
    Calls Try.prog 169 #[.int .i64 x, .pointer (some ⟨B, 0, none⟩)] W fun e w' => e = .returned (.bool (!(Hand.upToB x m))) ∧ Drawn0 W w' := by
  go_enter Try.func169, Try.ntmps169
  go_wp2_with (go_at_call 127; refine (Hand.upTo_calls x m _).mono ?_; rintro e w' ⟨rfl, nd, rfl⟩)
  go_ret
  exact ⟨rfl, by repeat (first | exact Drawn0.refl _ | apply Drawn0.step)⟩
/-- Are all numbers at most m in absolute value? -/
def impl_allUpTo.f (l0 : List Int) (a1 : Int) : Option Bool := some (!(l0.any fun x => !(Hand.upToB x a1)))
set_option maxHeartbeats 1000000 in
theorem impl_allUpTo.calls (A0 : Option Addr) (c0 : Nat) (l0 : List Int) (a1 : Int) (r : Bool) (w : World) (hr0 : Kd.C (Kd.int .i64) w A0 l0.length l0) (hc0 : l0.length ≤ c0) (h : impl_allUpTo.f l0 a1 = some r) :
    Calls Try.prog 148 #[.slice A0 l0.length c0, .int .i64 a1] w fun e w' => e = .returned (.bool r) ∧ Below w.heap.size w w' := by
  have HR := Aside0.mk hr0
  obtain rfl := Option.some.inj h
  clear hr0 hc0 h
  have eg := enters_of Try.func169 (by kernel_rfl) rfl
  go_enter Try.func148, Try.ntmps148
  go_wp2_with (go_at_call 125; refine (Hand.containsFunc_ints 169 #[.pointer (some ⟨w.heap.size, 0, none⟩)] eg (fun x => !(Hand.upToB x a1)) A0 c0 l0 _ (fun x q => impl_allUpTo_ask a1 x w.heap.size _ (by simp)) (Kd.C_alloc HR.out _)).mono ?_; rintro e w' ⟨rfl, nd, rfl⟩)
  go_ret
  exact ⟨rfl, by repeat (first | exact Below.refl _ _ | apply below_alloc | apply pw_below_drewN)⟩


/-! ### impl_IsMap: function 100, by hand -/
set_option maxHeartbeats 2000000 in
theorem impl_IsMap_ask (m : Int) (B : Nat) (A : Option Addr) (c : Nat) (x : List Int) (W : World) (hc : W.cell? ⟨B, 0, none⟩ = some (.int .i64 m)) (hr : (Kd.int .i64).C W A x.length x) (hx : x.length ≤ c) :
    Calls Try.prog 147 #[.slice A x.length c, .pointer (some ⟨B, 0, none⟩)] W fun e w' => e = .returned (.bool (decide ((x.length : Int) ≠ m) || !(!(x.any fun n => !(Hand.upToB n 100))))) ∧ Below W.heap.size W w' := by
  have HR := Aside0.mk hr
  have HX := Aside0.mk hx
  have hbig : x.length ≤ 9223372036854775807 := Kd.C_max hr
  clear hr hx
  by_cases hm : (x.length : Int) = m
  · subst hm
    rw [show (decide ((x.length : Int) ≠ (x.length : Int)) || !(!(x.any fun n => !(Hand.upToB n 100)))) = !(!(x.any fun n => !(Hand.upToB n 100))) from by simp]
    generalize hQ : (!(x.any fun n => !(Hand.upToB n 100))) = Q
    have HA := Aside0.mk (show impl_allUpTo.f x 100 = some Q from by rw [← hQ]; rfl)
    clear hQ
    go_enter Try.func147, Try.ntmps147
    go_wp2_with (go_at_call 148; refine (impl_allUpTo.calls A c x 100 Q _ HR.out HX.out HA.out).mono ?_; rintro e w' ⟨rfl, hb⟩)
    go_ret
    exact ⟨rfl, hb⟩
  · rw [show (decide ((x.length : Int) ≠ m) || !(!(x.any fun n => !(Hand.upToB n 100)))) = true from by simp [hm]]
    have b0 : ((x.length : Int) == m) = false := beq_eq_false_iff_ne.mpr hm
    have b1 : ((x.length : Int) != m) = true := bne_iff_ne.mpr hm
    clear hm
    go_enter Try.func147, Try.ntmps147
    go_wp2
    go_ret
    exact ⟨rfl, Below.refl _ _⟩
theorem impl_IsMap_letters (d : Int) : impl_areLetters.f d = some (decide (1 ≤ d) && decide (d ≤ 3)) := by
  unfold impl_areLetters.f impl_within.f
  by_cases h : 1 ≤ d <;> simp [h]
/-- Is this a map? -/
def impl_IsMap.f (a0 : Int) (a1 : Int) (l2 : List (List Int)) : Option Bool := some ((decide (1 ≤ a0) && decide (a0 ≤ 3)) && (decide (1 ≤ a1) && decide (a1 ≤ 3)) && decide ((l2.length : Int) = a0) && !(l2.any fun x => decide ((x.length : Int) ≠ a1) || !(!(x.any fun n => !(Hand.upToB n 100)))))
set_option maxHeartbeats 2000000 in
theorem impl_IsMap.calls (a0 : Int) (a1 : Int) (A2 : Option Addr) (c2 : Nat) (l2 : List (List Int)) (r : Bool) (w : World) (hr2 : Kd.C (Kd.slice 2 (Kd.int .i64)) w A2 l2.length l2) (hc2 : l2.length ≤ c2) (h : impl_IsMap.f a0 a1 l2 = some r) :
    Calls Try.prog 100 #[.int .i64 a0, .int .i64 a1, .slice A2 l2.length c2] w fun e w' => e = .returned (.bool r) ∧ Below w.heap.size w w' := by
  have HR := Aside0.mk hr2
  have HA := Aside0.mk (impl_IsMap_letters a0)
  have HB := Aside0.mk (impl_IsMap_letters a1)
  obtain rfl := Option.some.inj h
  clear hr2 hc2 h
  generalize hL : (decide (1 ≤ a0) && decide (a0 ≤ 3)) = L at HA
  clear hL
  generalize hM : (decide (1 ≤ a1) && decide (a1 ≤ 3)) = M at HB
  clear hM
  have eg := enters_of Try.func147 (by kernel_rfl) rfl
  generalize hQ : (l2.any fun x => decide ((x.length : Int) ≠ a1) || !(!(x.any fun n => !(Hand.upToB n 100)))) = Q
  have HQ := Aside0.mk hQ
  clear hQ
  cases L with
  | false =>
    rw [show (false && M && decide ((l2.length : Int) = a0) && !Q) = false from rfl]
    go_enter Try.func100, Try.ntmps100
    go_wp2_with (first | (go_at_call 118; with_reducible refine (impl_areLetters.calls a0 false _ HA.out).mono ?_; rintro e w' ⟨rfl, nd, rfl⟩))
    go_ret
    exact ⟨rfl, (by repeat (first | exact Below.refl _ _ | apply below_alloc | apply pw_below_drewN))⟩
  | true =>
    cases M with
    | false =>
      rw [show (true && false && decide ((l2.length : Int) = a0) && !Q) = false from rfl]
      go_enter Try.func100, Try.ntmps100
      go_wp2_with (first | (go_at_call 118; with_reducible refine (impl_areLetters.calls a0 true _ HA.out).mono ?_; rintro e w' ⟨rfl, nd, rfl⟩) | (go_at_call 118; with_reducible refine (impl_areLetters.calls a1 false _ HB.out).mono ?_; rintro e w' ⟨rfl, nd, rfl⟩))
      go_ret
      exact ⟨rfl, (by repeat (first | exact Below.refl _ _ | apply below_alloc | apply pw_below_drewN))⟩
    | true =>
      by_cases hl : (l2.length : Int) = a0
      · have b0 : decide ((l2.length : Int) = a0) = true := decide_eq_true hl
        have b1 : ((l2.length : Int) == a0) = true := beq_iff_eq.mpr hl
        rw [b0, show (true && true && true && !Q) = !Q from rfl]
        clear hl
        go_enter Try.func100, Try.ntmps100
        go_wp2_with (first | (go_at_call 118; with_reducible refine (impl_areLetters.calls a0 true _ HA.out).mono ?_; rintro e w' ⟨rfl, nd, rfl⟩) | (go_at_call 118; with_reducible refine (impl_areLetters.calls a1 true _ HB.out).mono ?_; rintro e w' ⟨rfl, nd, rfl⟩) | (go_at_call 146; refine (Hand.containsFunc_rows 147 #[.pointer (some ⟨w.heap.size, 0, none⟩)] eg (fun x => decide ((x.length : Int) ≠ a1) || !(!(x.any fun n => !(Hand.upToB n 100)))) A2 c2 l2 _ (fun A c x W hb hC hx => impl_IsMap_ask a1 w.heap.size A c x W (pw_cell_below hb (by simp)) hC hx) (by first | exact Kd.C_alloc HR.out _ | exact Kd.C_drewN (Kd.C_alloc HR.out _) _ | exact Kd.C_drewN (Kd.C_drewN (Kd.C_alloc HR.out _) _) _)).mono ?_; rw [HQ.out]; rintro e w' ⟨rfl, hb⟩))
        go_ret
        exact ⟨rfl, below_step (by repeat (first | exact Below.refl _ _ | apply below_alloc | apply pw_below_drewN)) hb⟩
      · have b0 : decide ((l2.length : Int) = a0) = false := decide_eq_false hl
        have b1 : ((l2.length : Int) == a0) = false := beq_eq_false_iff_ne.mpr hl
        rw [b0, show (true && true && false && !Q) = false from rfl]
        clear hl
        go_enter Try.func100, Try.ntmps100
        go_wp2_with (first | (go_at_call 118; with_reducible refine (impl_areLetters.calls a0 true _ HA.out).mono ?_; rintro e w' ⟨rfl, nd, rfl⟩) | (go_at_call 118; with_reducible refine (impl_areLetters.calls a1 true _ HB.out).mono ?_; rintro e w' ⟨rfl, nd, rfl⟩))
        go_ret
        exact ⟨rfl, (by repeat (first | exact Below.refl _ _ | apply below_alloc | apply pw_below_drewN))⟩


/-! ### bits_Mul64: function 175 -/
def bits_Mul64.f (a0 : Int) (a1 : Int) : Option (Int × Int) := some (IntKind.u64.wrap ((IntKind.u64.wrap ((IntKind.u64.wrap ((a0 / 4294967296) * (a1 / 4294967296))) + ((IntKind.u64.wrap ((IntKind.u64.wrap ((a0 / 4294967296) * (Go.bits .and .u64 a1 4294967295))) + ((IntKind.u64.wrap ((Go.bits .and .u64 a0 4294967295) * (Go.bits .and .u64 a1 4294967295))) / 4294967296))) / 4294967296))) + ((IntKind.u64.wrap ((Go.bits .and .u64 (IntKind.u64.wrap ((IntKind.u64.wrap ((a0 / 4294967296) * (Go.bits .and .u64 a1 4294967295))) + ((IntKind.u64.wrap ((Go.bits .and .u64 a0 4294967295) * (Go.bits .and .u64 a1 4294967295))) / 4294967296))) 4294967295) + (IntKind.u64.wrap ((Go.bits .and .u64 a0 4294967295) * (a1 / 4294967296))))) / 4294967296)), IntKind.u64.wrap (a0 * a1))
set_option maxHeartbeats 8000000 in
set_option maxRecDepth 100000 in
theorem bits_Mul64.calls (a0 : Int) (a1 : Int) (r1 : Int) (r2 : Int) (w : World) (h : bits_Mul64.f a0 a1 = some (r1, r2)) :
    Calls Try.prog 175 #[.int .u64 a0, .int .u64 a1] w fun e w' => e = .returned (.tuple #[.int .u64 r1, .int .u64 r2]) ∧ Drawn0 w w' := by
  have H : (some (IntKind.u64.wrap ((IntKind.u64.wrap ((IntKind.u64.wrap ((a0 / 4294967296) * (a1 / 4294967296))) + ((IntKind.u64.wrap ((IntKind.u64.wrap ((a0 / 4294967296) * (Go.bits .and .u64 a1 4294967295))) + ((IntKind.u64.wrap ((Go.bits .and .u64 a0 4294967295) * (Go.bits .and .u64 a1 4294967295))) / 4294967296))) / 4294967296))) + ((IntKind.u64.wrap ((Go.bits .and .u64 (IntKind.u64.wrap ((IntKind.u64.wrap ((a0 / 4294967296) * (Go.bits .and .u64 a1 4294967295))) + ((IntKind.u64.wrap ((Go.bits .and .u64 a0 4294967295) * (Go.bits .and .u64 a1 4294967295))) / 4294967296))) 4294967295) + (IntKind.u64.wrap ((Go.bits .and .u64 a0 4294967295) * (a1 / 4294967296))))) / 4294967296)), IntKind.u64.wrap (a0 * a1))) = some (r1, r2) := h
  clear h
  simp only [Option.some.injEq, Prod.mk.injEq] at H
  obtain ⟨rfl, rfl⟩ := H
  go_enter Try.func175, Try.ntmps175
  go_wp2
  go_ret2
  exact ⟨by first | rfl | (simp; done) | (simp [*]; done), by repeat (first | exact Drawn0.refl _ | apply Drawn0.step)⟩


/-! ### bits_Mul: function 163 -/
def bits_Mul.f (a0 : Int) (a1 : Int) : Option (Int × Int) := (bits_Mul64.f a0 a1).bind fun bt370 => (some (bt370.1, bt370.2))
set_option maxHeartbeats 8000000 in
set_option maxRecDepth 100000 in
theorem bits_Mul.calls (a0 : Int) (a1 : Int) (r1 : Int) (r2 : Int) (w : World) (h : bits_Mul.f a0 a1 = some (r1, r2)) :
    Calls Try.prog 163 #[.int .u64 a0, .int .u64 a1] w fun e w' => e = .returned (.tuple #[.int .u64 r1, .int .u64 r2]) ∧ Drawn0 w w' := by
  have H : ((bits_Mul64.f a0 a1).bind fun bt370 => (some (bt370.1, bt370.2))) = some (r1, r2) := h
  clear h
  replace H := Option.bind_eq_some_iff.mp H
  obtain ⟨⟨t370, t371⟩, A30, H⟩ := H
  replace H : (some (t370, t371)) = some (r1, r2) := H
  have A3 := Aside0.mk A30
  clear A30
  simp only [Option.some.injEq, Prod.mk.injEq] at H
  obtain ⟨rfl, rfl⟩ := H
  go_enter Try.func163, Try.ntmps163
  go_wp2_with (first | ((with_reducible refine gate_callee (f := 175) rfl ?_); refine goesL_ (some 25) rfl rfl Try.func175 (by kernel_rfl) rfl #[.int .u64 a0, .int .u64 a1] rfl zM ?_; (with_reducible refine (bits_Mul64.calls a0 a1 t370 t371 _ A3.out).mono ?_); rintro e w' ⟨rfl, ⟨nd, rfl⟩⟩; refine ⟨_, rfl, ?_⟩))
  go_ret2
  exact ⟨by first | rfl | (simp; done) | (simp [*]; done), by repeat (first | exact Drawn0.refl _ | apply Drawn0.step)⟩


end Go.Proofs.Ytcklefgkbddlhaa.P
