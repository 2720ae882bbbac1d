/- What a call of each Go function named below comes to is what the plain Lean function beside it says. Made by a program of this session out of the print of the translation; Lean checks it. -/
import Derived.Test.YtcklefgkbddlhaaPx0
import Derived.Laws.Bits64
import Derived.Test.YtcklefgkbddlhaaHand
import Derived.Test.YtcklefgkbddlhaaHandCopyS
namespace Go.Proofs.Ytcklefgkbddlhaa.P
open Go.RowKit Go.Proofs.YtcklefgkbddlhaaW.PrintWords Go.Proofs.YtcklefgkbddlhaaW.PrintLast Go.Proofs.YtcklefgkbddlhaaW.PrintMore
attribute [local go_sem] max2_int min2_int max_two min_two max_three min_three max_four min_four   -- for this text's walks alone
set_option linter.unusedVariables false
set_option linter.unusedSimpArgs false


/-! ### impl_within: function 119 -/
def impl_within.f (a0 : Int) (a1 : Int) (a2 : Int) : Option (Bool) := if a0 ≥ a1 then (some (decide (a0 ≤ a2))) else (some false)
set_option maxHeartbeats 8000000 in
set_option maxRecDepth 100000 in
theorem impl_within.calls (a0 : Int) (a1 : Int) (a2 : Int) (r : Bool) (w : World) (h : impl_within.f a0 a1 a2 = some r) :
    Calls Try.prog 119 #[.int .i64 a0, .int .i64 a1, .int .i64 a2] w fun e w' => e = .returned (.bool r) ∧ Drawn0 w w' := by
  have H : (if a0 ≥ a1 then (some (decide (a0 ≤ a2))) else (some false)) = some r := h
  clear h
  by_cases c4 : a0 ≥ a1
  · rw [if_pos c4] at H
    have c4b0 : decide (a1 ≤ a0) = true := decide_eq_true c4
    clear c4
    obtain rfl := Option.some.inj H
    go_enter Try.func119, Try.ntmps119
    go_wp2
    go_ret
    exact ⟨by first | rfl | (simp; done) | (simp [*]; done), by repeat (first | exact Drawn0.refl _ | apply Drawn0.step)⟩
  · rw [if_neg c4] at H
    have c4b0 : decide (a1 ≤ a0) = false := decide_eq_false c4
    clear c4
    obtain rfl := Option.some.inj H
    go_enter Try.func119, Try.ntmps119
    go_wp2
    go_ret
    exact ⟨by first | rfl | (simp; done) | (simp [*]; done), by repeat (first | exact Drawn0.refl _ | apply Drawn0.step)⟩


/-! ### impl_areLetters: function 118 -/
def impl_areLetters.f (a0 : Int) : Option (Bool) := (impl_within.f a0 1 3).bind fun t292 => (some t292)
set_option maxHeartbeats 8000000 in
set_option maxRecDepth 100000 in
theorem impl_areLetters.calls (a0 : Int) (r : Bool) (w : World) (h : impl_areLetters.f a0 = some r) :
    Calls Try.prog 118 #[.int .i64 a0] w fun e w' => e = .returned (.bool r) ∧ Drawn0 w w' := by
  have H : ((impl_within.f a0 1 3).bind fun t292 => (some t292)) = some r := h
  clear h
  replace H := Option.bind_eq_some_iff.mp H
  obtain ⟨t292, A20, H⟩ := H
  replace H : (some t292) = some r := H
  have A2 := Aside0.mk A20
  clear A20
  obtain rfl := Option.some.inj H
  go_enter Try.func118, Try.ntmps118
  go_wp2_with (first | ((with_reducible refine gate_callee (f := 119) rfl ?_); refine goesL_ (some 4) rfl rfl Try.func119 (by kernel_rfl) rfl #[.int .i64 a0, .int .i64 1, .int .i64 3] rfl zM ?_; (with_reducible refine (impl_within.calls a0 1 3 t292 _ A2.out).mono ?_); rintro e w' ⟨rfl, ⟨nd, rfl⟩⟩; refine ⟨_, rfl, ?_⟩))
  go_ret
  exact ⟨by first | rfl | (simp; done) | (simp [*]; done), by repeat (first | exact Drawn0.refl _ | apply Drawn0.step)⟩

-- NOT PRINTED: function 162 (slices_IndexFunc_int64_int64)

-- NOT PRINTED: function 125 (slices_ContainsFunc_int64_int64)

/-! ### impl_IsGroupWord: function 71, by hand -/
set_option maxHeartbeats 1000000 in
theorem impl_IsGroupWord_ask (m x : Int) (B : Nat) (W : World) (hc : W.cell? ⟨B, 0, none⟩ = some (.int .i64 m)) :
    Calls Try.prog 126 #[.int .i64 x, .pointer (some ⟨B, 0, none⟩)] W fun e w' => e = .returned (.bool (decide (x = 0) || !(Hand.upToB x m))) ∧ Drawn0 W w' := by
  by_cases hx : x = 0
  · subst hx
    go_enter Try.func126, Try.ntmps126
    go_wp2
    go_ret
    exact ⟨rfl, by repeat (first | exact Drawn0.refl _ | apply Drawn0.step)⟩
  · have b0 : (x == 0) = false := beq_eq_false_iff_ne.mpr hx
    have b1 : (x != 0) = true := bne_iff_ne.mpr hx
    have e : (decide (x = 0) || !(Hand.upToB x m)) = !(Hand.upToB x m) := by simp [hx]
    rw [e]
    clear e hx
    go_enter Try.func126, Try.ntmps126
    go_wp2_with (go_at_call 127; refine (Hand.upTo_calls x m _).mono ?_; rintro e w' ⟨rfl, nd, rfl⟩)
    go_ret
    exact ⟨rfl, by repeat (first | exact Drawn0.refl _ | apply Drawn0.step)⟩
theorem impl_IsGroupWord_letters (d : Int) : impl_areLetters.f d = some (decide (1 ≤ d) && decide (d ≤ 3)) := by
  unfold impl_areLetters.f impl_within.f
  by_cases h : 1 ≤ d <;> simp [h]
/-- Is this a group word? -/
def impl_IsGroupWord.f (a0 : Int) (l1 : List Int) : Option Bool := some ((decide (1 ≤ a0) && decide (a0 ≤ 3)) && decide ((l1.length : Int) ≤ 12) && !(l1.any fun x => decide (x = 0) || !(Hand.upToB x a0)))
set_option maxHeartbeats 2000000 in
theorem impl_IsGroupWord.calls (a0 : Int) (A1 : Option Addr) (c1 : Nat) (l1 : List Int) (r : Bool) (w : World) (hr1 : Kd.C (Kd.int .i64) w A1 l1.length l1) (hc1 : l1.length ≤ c1) (h : impl_IsGroupWord.f a0 l1 = some r) :
    Calls Try.prog 71 #[.int .i64 a0, .slice A1 l1.length c1] w fun e w' => e = .returned (.bool r) ∧ Below w.heap.size w w' := by
  have HR := Aside0.mk hr1
  have HA := Aside0.mk (impl_IsGroupWord_letters a0)
  obtain rfl := Option.some.inj h
  clear hr1 hc1 h
  generalize hL : (decide (1 ≤ a0) && decide (a0 ≤ 3)) = L at HA
  clear hL
  have eg := enters_of Try.func126 (by kernel_rfl) rfl
  cases L with
  | false =>
    rw [show (false && decide ((l1.length : Int) ≤ 12) && !(l1.any fun x => decide (x = 0) || !(Hand.upToB x a0))) = false from rfl]
    go_enter Try.func71, Try.ntmps71
    go_wp2_with (go_at_call 118; refine (impl_areLetters.calls a0 false _ HA.out).mono ?_; rintro e w' ⟨rfl, nd, rfl⟩)
    go_ret
    exact ⟨rfl, by repeat (first | exact Below.refl _ _ | apply below_alloc | apply pw_below_drewN)⟩
  | true =>
    by_cases hl : (l1.length : Int) ≤ 12
    · have b0 : decide ((l1.length : Int) ≤ 12) = true := decide_eq_true hl
      have b1 : decide (l1.length ≤ 12) = true := decide_eq_true (by omega)
      rw [b0, show (true && true && !(l1.any fun x => decide (x = 0) || !(Hand.upToB x a0))) = !(l1.any fun x => decide (x = 0) || !(Hand.upToB x a0)) from rfl]
      clear hl
      go_enter Try.func71, Try.ntmps71
      go_wp2_with (first | (go_at_call 118; refine (impl_areLetters.calls a0 true _ HA.out).mono ?_; rintro e w' ⟨rfl, nd, rfl⟩) | (go_at_call 125; refine (Hand.containsFunc_ints 126 #[.pointer (some ⟨w.heap.size, 0, none⟩)] eg (fun x => decide (x = 0) || !(Hand.upToB x a0)) A1 c1 l1 _ (fun x q => impl_IsGroupWord_ask a0 x w.heap.size _ (by simp)) (by first | exact Kd.C_alloc HR.out _ | exact Kd.C_drewN (Kd.C_alloc HR.out _) _)).mono ?_; rintro e w' ⟨rfl, nd, rfl⟩))
      go_ret
      exact ⟨rfl, by repeat (first | exact Below.refl _ _ | apply below_alloc | apply pw_below_drewN)⟩
    · have b0 : decide ((l1.length : Int) ≤ 12) = false := decide_eq_false hl
      have b1 : decide (l1.length ≤ 12) = false := decide_eq_false (by omega)
      rw [b0, show (true && false && !(l1.any fun x => decide (x = 0) || !(Hand.upToB x a0))) = false from rfl]
      clear hl
      go_enter Try.func71, Try.ntmps71
      go_wp2_with (go_at_call 118; refine (impl_areLetters.calls a0 true _ HA.out).mono ?_; rintro e w' ⟨rfl, nd, rfl⟩)
      go_ret
      exact ⟨rfl, by repeat (first | exact Below.refl _ _ | apply below_alloc | apply pw_below_drewN)⟩


/-! ### impl_isLevel: function 72 -/
def impl_isLevel.f (a0 : Int) (a1 : Int) : Option (Bool) := (impl_areLetters.f a0).bind fun t299 => (if t299 = true then ((impl_within.f a1 1 5).bind fun t300 => (if t300 = true then (if a0 < 3 then (some true) else (some (decide (a1 < 5)))) else (some false))) else (some false))
set_option maxHeartbeats 8000000 in
set_option maxRecDepth 100000 in
theorem impl_isLevel.calls (a0 : Int) (a1 : Int) (r : Bool) (w : World) (h : impl_isLevel.f a0 a1 = some r) :
    Calls Try.prog 72 #[.int .i64 a0, .int .i64 a1] w fun e w' => e = .returned (.bool r) ∧ Drawn0 w w' := by
  have H : ((impl_areLetters.f a0).bind fun t299 => (if t299 = true then ((impl_within.f a1 1 5).bind fun t300 => (if t300 = true then (if a0 < 3 then (some true) else (some (decide (a1 < 5)))) else (some false))) else (some false))) = some r := h
  clear h
  replace H := Option.bind_eq_some_iff.mp H
  obtain ⟨t299, A30, H⟩ := H
  replace H : (if t299 = true then ((impl_within.f a1 1 5).bind fun t300 => (if t300 = true then (if a0 < 3 then (some true) else (some (decide (a1 < 5)))) else (some false))) else (some false)) = some r := H
  have A3 := Aside0.mk A30
  clear A30
  by_cases c4 : t299 = true
  · subst c4
    have H1 : ((impl_within.f a1 1 5).bind fun t300 => (if t300 = true then (if a0 < 3 then (some true) else (some (decide (a1 < 5)))) else (some false))) = some r := by rw [if_pos rfl] at H; exact H
    clear H
    have H := H1
    clear H1
    replace H := Option.bind_eq_some_iff.mp H
    obtain ⟨t300, A50, H⟩ := H
    replace H : (if t300 = true then (if a0 < 3 then (some true) else (some (decide (a1 < 5)))) else (some false)) = some r := H
    have A5 := Aside0.mk A50
    clear A50
    by_cases c6 : t300 = true
    · subst c6
      have H1 : (if a0 < 3 then (some true) else (some (decide (a1 < 5)))) = some r := by rw [if_pos rfl] at H; exact H
      clear H
      have H := H1
      clear H1
      by_cases c7 : a0 < 3
      · rw [if_pos c7] at H
        have c7b0 : decide (a0 < 3) = true := decide_eq_true c7
        clear c7
        obtain rfl := Option.some.inj H
        go_enter Try.func72, Try.ntmps72
        go_wp2_with (first | ((with_reducible refine gate_callee (f := 118) rfl ?_); refine goesL_ (some 6) rfl rfl Try.func118 (by kernel_rfl) rfl #[.int .i64 a0] rfl zM ?_; (with_reducible refine (impl_areLetters.calls a0 true _ A3.out).mono ?_); rintro e w' ⟨rfl, ⟨nd, rfl⟩⟩; refine ⟨_, rfl, ?_⟩) | (go_at_call 119; (with_reducible refine (impl_within.calls a1 1 5 true _ A5.out).mono ?_); rintro e w' ⟨rfl, ⟨nd, rfl⟩⟩))
        go_ret
        exact ⟨by first | rfl | (simp; done) | (simp [*]; done), by repeat (first | exact Drawn0.refl _ | apply Drawn0.step)⟩
      · rw [if_neg c7] at H
        have c7b0 : decide (a0 < 3) = false := decide_eq_false c7
        clear c7
        obtain rfl := Option.some.inj H
        go_enter Try.func72, Try.ntmps72
        go_wp2_with (first | ((with_reducible refine gate_callee (f := 118) rfl ?_); refine goesL_ (some 6) rfl rfl Try.func118 (by kernel_rfl) rfl #[.int .i64 a0] rfl zM ?_; (with_reducible refine (impl_areLetters.calls a0 true _ A3.out).mono ?_); rintro e w' ⟨rfl, ⟨nd, rfl⟩⟩; refine ⟨_, rfl, ?_⟩) | (go_at_call 119; (with_reducible refine (impl_within.calls a1 1 5 true _ A5.out).mono ?_); rintro e w' ⟨rfl, ⟨nd, rfl⟩⟩))
        go_ret
        exact ⟨by first | rfl | (simp; done) | (simp [*]; done), by repeat (first | exact Drawn0.refl _ | apply Drawn0.step)⟩
    · replace c6 := Bool.eq_false_iff.mpr c6
      subst c6
      have H1 : (some false) = some r := by rw [if_neg (show ¬ (false = true) by decide)] at H; exact H
      clear H
      have H := H1
      clear H1
      obtain rfl := Option.some.inj H
      go_enter Try.func72, Try.ntmps72
      go_wp2_with (first | ((with_reducible refine gate_callee (f := 118) rfl ?_); refine goesL_ (some 6) rfl rfl Try.func118 (by kernel_rfl) rfl #[.int .i64 a0] rfl zM ?_; (with_reducible refine (impl_areLetters.calls a0 true _ A3.out).mono ?_); rintro e w' ⟨rfl, ⟨nd, rfl⟩⟩; refine ⟨_, rfl, ?_⟩) | (go_at_call 119; (with_reducible refine (impl_within.calls a1 1 5 false _ A5.out).mono ?_); rintro e w' ⟨rfl, ⟨nd, rfl⟩⟩))
      go_ret
      exact ⟨by first | rfl | (simp; done) | (simp [*]; done), by repeat (first | exact Drawn0.refl _ | apply Drawn0.step)⟩
  · replace c4 := Bool.eq_false_iff.mpr c4
    subst c4
    have H1 : (some false) = some r := by rw [if_neg (show ¬ (false = true) by decide)] at H; exact H
    clear H
    have H := H1
    clear H1
    obtain rfl := Option.some.inj H
    go_enter Try.func72, Try.ntmps72
    go_wp2_with (first | ((with_reducible refine gate_callee (f := 118) rfl ?_); refine goesL_ (some 6) rfl rfl Try.func118 (by kernel_rfl) rfl #[.int .i64 a0] rfl zM ?_; (with_reducible refine (impl_areLetters.calls a0 false _ A3.out).mono ?_); rintro e w' ⟨rfl, ⟨nd, rfl⟩⟩; refine ⟨_, rfl, ?_⟩))
    go_ret
    exact ⟨by first | rfl | (simp; done) | (simp [*]; done), by repeat (first | exact Drawn0.refl _ | apply Drawn0.step)⟩


/-! ### bits_Mul64: function 175 -/
def bits_Mul64.f (a0 : Int) (a1 : Int) : Option (Int × Int) := some (IntKind.u64.wrap ((IntKind.u64.wrap ((IntKind.u64.wrap ((a0 / 4294967296) * (a1 / 4294967296))) + ((IntKind.u64.wrap ((IntKind.u64.wrap ((a0 / 4294967296) * (Go.bits .and .u64 a1 4294967295))) + ((IntKind.u64.wrap ((Go.bits .and .u64 a0 4294967295) * (Go.bits .and .u64 a1 4294967295))) / 4294967296))) / 4294967296))) + ((IntKind.u64.wrap ((Go.bits .and .u64 (IntKind.u64.wrap ((IntKind.u64.wrap ((a0 / 4294967296) * (Go.bits .and .u64 a1 4294967295))) + ((IntKind.u64.wrap ((Go.bits .and .u64 a0 4294967295) * (Go.bits .and .u64 a1 4294967295))) / 4294967296))) 4294967295) + (IntKind.u64.wrap ((Go.bits .and .u64 a0 4294967295) * (a1 / 4294967296))))) / 4294967296)), IntKind.u64.wrap (a0 * a1))
set_option maxHeartbeats 8000000 in
set_option maxRecDepth 100000 in
theorem bits_Mul64.calls (a0 : Int) (a1 : Int) (r1 : Int) (r2 : Int) (w : World) (h : bits_Mul64.f a0 a1 = some (r1, r2)) :
    Calls Try.prog 175 #[.int .u64 a0, .int .u64 a1] w fun e w' => e = .returned (.tuple #[.int .u64 r1, .int .u64 r2]) ∧ Drawn0 w w' := by
  have H : (some (IntKind.u64.wrap ((IntKind.u64.wrap ((IntKind.u64.wrap ((a0 / 4294967296) * (a1 / 4294967296))) + ((IntKind.u64.wrap ((IntKind.u64.wrap ((a0 / 4294967296) * (Go.bits .and .u64 a1 4294967295))) + ((IntKind.u64.wrap ((Go.bits .and .u64 a0 4294967295) * (Go.bits .and .u64 a1 4294967295))) / 4294967296))) / 4294967296))) + ((IntKind.u64.wrap ((Go.bits .and .u64 (IntKind.u64.wrap ((IntKind.u64.wrap ((a0 / 4294967296) * (Go.bits .and .u64 a1 4294967295))) + ((IntKind.u64.wrap ((Go.bits .and .u64 a0 4294967295) * (Go.bits .and .u64 a1 4294967295))) / 4294967296))) 4294967295) + (IntKind.u64.wrap ((Go.bits .and .u64 a0 4294967295) * (a1 / 4294967296))))) / 4294967296)), IntKind.u64.wrap (a0 * a1))) = some (r1, r2) := h
  clear h
  simp only [Option.some.injEq, Prod.mk.injEq] at H
  obtain ⟨rfl, rfl⟩ := H
  go_enter Try.func175, Try.ntmps175
  go_wp2
  go_ret2
  exact ⟨by first | rfl | (simp; done) | (simp [*]; done), by repeat (first | exact Drawn0.refl _ | apply Drawn0.step)⟩


/-! ### bits_Mul: function 163 -/
def bits_Mul.f (a0 : Int) (a1 : Int) : Option (Int × Int) := (bits_Mul64.f a0 a1).bind fun bt301 => (some (bt301.1, bt301.2))
set_option maxHeartbeats 8000000 in
set_option maxRecDepth 100000 in
theorem bits_Mul.calls (a0 : Int) (a1 : Int) (r1 : Int) (r2 : Int) (w : World) (h : bits_Mul.f a0 a1 = some (r1, r2)) :
    Calls Try.prog 163 #[.int .u64 a0, .int .u64 a1] w fun e w' => e = .returned (.tuple #[.int .u64 r1, .int .u64 r2]) ∧ Drawn0 w w' := by
  have H : ((bits_Mul64.f a0 a1).bind fun bt301 => (some (bt301.1, bt301.2))) = some (r1, r2) := h
  clear h
  replace H := Option.bind_eq_some_iff.mp H
  obtain ⟨⟨t301, t302⟩, A30, H⟩ := H
  replace H : (some (t301, t302)) = some (r1, r2) := H
  have A3 := Aside0.mk A30
  clear A30
  simp only [Option.some.injEq, Prod.mk.injEq] at H
  obtain ⟨rfl, rfl⟩ := H
  go_enter Try.func163, Try.ntmps163
  go_wp2_with (first | ((with_reducible refine gate_callee (f := 175) rfl ?_); refine goesL_ (some 25) rfl rfl Try.func175 (by kernel_rfl) rfl #[.int .u64 a0, .int .u64 a1] rfl zM ?_; (with_reducible refine (bits_Mul64.calls a0 a1 t301 t302 _ A3.out).mono ?_); rintro e w' ⟨rfl, ⟨nd, rfl⟩⟩; refine ⟨_, rfl, ?_⟩))
  go_ret2
  exact ⟨by first | rfl | (simp; done) | (simp [*]; done), by repeat (first | exact Drawn0.refl _ | apply Drawn0.step)⟩


/-! ### impl_Fraction: function 130, by hand -/
namespace RepP
theorem infoF : (Try.prog.info? 27).map (fun i => (i.zero, i.size, i.bytes)) = some (some (.agg #[.int .i64 0, .int .i64 0]), 2, 16) := by kernel_rfl
theorem mask32 (x : Int) (h0 : 0 ≤ x) (h1 : x < 1000000) : Go.bits .and .u64 x 4294967295 = x := by
  have h := bits_mask .u64 63 (by decide) (fun n h₀ h₁ => by rw [IntKind.wrap_u64]; omega) 32 (by decide) x h0 (by omega)
  have e : ((2 : Int) ^ 32 - 1) = 4294967295 := by decide
  have e2 : ((2 : Int) ^ 32) = 4294967296 := by decide
  rw [e, e2] at h
  rw [h]
  omega
theorem mul_one (n : Nat) (h : n ≤ 1000) : bits_Mul.f 1 (n : Int) = some (0, (n : Int)) := by
  unfold bits_Mul.f bits_Mul64.f
  simp only [Option.bind_some]
  rw [mask32 1 (by decide) (by decide), mask32 (n : Int) (by omega) (by omega)]
  have e0 : (1 : Int) / 4294967296 = 0 := by decide
  have e1 : (n : Int) / 4294967296 = 0 := by omega
  have e2 : ∀ x : Int, 0 ≤ x → x < 1000000 → IntKind.u64.wrap x = x := fun x h0 h1 => by rw [IntKind.wrap_u64]; omega
  have e3 : IntKind.u64.wrap 0 = 0 := e2 0 (by decide) (by decide)
  rw [e0, e1, Int.zero_mul, Int.zero_mul, Int.one_mul, Int.mul_zero, e3, e2 (n : Int) (by omega) (by omega), e1, Int.add_zero, e3, Int.add_zero, mask32 0 (by decide) (by decide)]
  simp [e3]
/-- The cells of many equal fractions. -/
def flat (a b : Int) : Nat → List Value
  | 0 => []
  | m + 1 => .int .i64 a :: .int .i64 b :: flat a b m
theorem flat_length (a b : Int) : ∀ m, (flat a b m).length = m * 2
  | 0 => rfl
  | m + 1 => by rw [flat, List.length_cons, List.length_cons, flat_length a b m]; omega
theorem flat_at (a b : Int) : ∀ m j v, (flat a b m)[j]? = some v → v = (if j % 2 = 0 then .int .i64 a else .int .i64 b)
  | 0, j, v, h => by simp [flat] at h
  | m + 1, 0, v, h => by simp [flat] at h; simp [h]
  | m + 1, 1, v, h => by simp [flat] at h; simp [h]
  | m + 1, j + 2, v, h => by
    have := flat_at a b m j v (by simpa [flat] using h)
    rw [this, show (j + 2) % 2 = j % 2 by omega]
theorem flat_one (a b : Int) (m : Nat) : ∀ v ∈ flat a b m, v.oneCell' = true := by
  intro v hv
  obtain ⟨j, hj, rfl⟩ := List.getElem_of_mem hv
  have := flat_at a b m j _ (List.getElem?_eq_getElem hj)
  rw [this]
  split <;> rfl
section
variable {base g n cap : Nat} {w0 : World} (a b : Int)
theorem fills : ∀ m o (w : World) (x : List S27), Kd.R k27 27 w base (fun _ => True) (.slice (some ⟨g, 0, none⟩) n cap) x → Below w0.heap.size w0 w → w0.heap.size ≤ g → o + m ≤ x.length →
    Kd.R k27 27 (w.setCells g (o * 2) (flat a b m)) base (fun _ => True) (.slice (some ⟨g, 0, none⟩) n cap) (x.take o ++ List.replicate m ⟨a, b⟩ ++ x.drop (o + m)) ∧ Below w0.heap.size w0 (w.setCells g (o * 2) (flat a b m))
  | 0, o, w, x, h, hb, _, _ => ⟨by simp only [List.replicate_zero, flat, World.setCells, List.append_nil, Nat.add_zero, List.take_append_drop]; exact h, hb⟩
  | m + 1, o, w, x, h, hb, hg, hl => by
    have hnx := (Kd.R_reads' h).1
    obtain ⟨c, hcl, hM, hc, hf⟩ := Kd.R_elem h z27 (o : Int) (by omega) (by omega)
    have hs := (Kd.R_seg h (o : Int) (by omega) (by omega) (seg := [.int .i64 a, .int .i64 b]) (j := 0) hcl hc (show 2 ≤ 2 from Nat.le_refl _) (x' := ⟨a, b⟩) (okp := fun _ => False) (by
      have e : List.take 0 c ++ [Value.int .i64 a, .int .i64 b] ++ List.drop (0 + [Value.int .i64 a, .int .i64 b].length) c = [.int .i64 a, .int .i64 b] := by
        rw [List.drop_of_length_le (by rw [hcl]; exact (show 2 ≤ 2 from Nat.le_refl _))]
        rfl
      rw [e]
      exact k27_mkM _ _ _ ⟨a, b⟩) (fun _ hk => hk.elim)).1
    rw [Int.toNat_natCast] at hs
    obtain ⟨p, q⟩ := fills m (o + 1) _ (x.set o ⟨a, b⟩) hs (below_set (below_set hb hg) hg) hg (by rw [List.length_set]; omega)
    have e : (x.set o ⟨a, b⟩).take (o + 1) ++ List.replicate m ⟨a, b⟩ ++ (x.set o ⟨a, b⟩).drop (o + 1 + m) = x.take o ++ List.replicate (m + 1) ⟨a, b⟩ ++ x.drop (o + (m + 1)) := by
      rw [List.take_succ_eq_append_getElem (by rw [List.length_set]; omega), List.take_set_of_le (Nat.le_refl _), List.getElem_set_self, List.drop_set_of_lt (by omega), show o + 1 + m = o + (m + 1) from by omega, List.replicate_succ]
      simp
    rw [e] at p
    have e2 : (w.setCells g (o * 2) (flat a b (m + 1))) = ((w.setCells g (o * 2 + 0) [.int .i64 a, .int .i64 b]).setCells g ((o + 1) * 2) (flat a b m)) := by
      simp only [flat, World.setCells]
      rw [show (o + 1) * 2 = o * 2 + 1 + 1 from by omega]
      rfl
    rw [e2]
    exact ⟨p, q⟩
end
theorem frozen_of {base g n cap : Nat} {ok : Nat → Prop} {x : List S27} {w : World} (h : Kd.R k27 27 w base ok (.slice (some ⟨g, 0, none⟩) n cap) x) (j : Nat) : w.frozen? ⟨g, j, none⟩ = false := by
  obtain ⟨inner, ho⟩ := Kd.R_own h
  obtain ⟨cells, hcc⟩ := own_typed ho g (by simp [Value.ownBlock])
  exact blk_frozen hcc j
theorem cell_of {base g n cap : Nat} {ok : Nat → Prop} {x : List S27} {w : World} (h : Kd.R k27 27 w base ok (.slice (some ⟨g, 0, none⟩) n cap) x) (j : Nat) (hj : j < n * 2) : w.cell? ⟨g, j, none⟩ = some (if j % 2 = 0 then .int .i64 (rd_T27 x ((j / 2 : Nat) : Int)).f0 else .int .i64 (rd_T27 x ((j / 2 : Nat) : Int)).f1) := by
  obtain ⟨c, hcl, hM, hc, hf⟩ := Kd.R_elem h z27 ((j / 2 : Nat) : Int) (by omega) (by omega)
  obtain rfl := k27_openM hM
  rw [Int.toNat_natCast] at hc
  by_cases h2 : j % 2 = 0
  · rw [if_pos h2]
    have := hc 0 _ rfl
    rw [show j / 2 * k27.sz + 0 = j from by show j / 2 * 2 + 0 = j; omega] at this
    exact this
  · rw [if_neg h2]
    have := hc 1 _ rfl
    rw [show j / 2 * k27.sz + 1 = j from by show j / 2 * 2 + 1 = j; omega] at this
    exact this
theorem copy_first (a b : Int) (n cap c g : Nat) (ad : Addr) (base : Nat) (w : World) (ty : TypeId) (h1 : 1 ≤ n) {ok : Nat → Prop} {x : List S27} (h : Kd.R k27 27 w base ok (.slice (some ⟨g, 0, none⟩) n cap) x) (hx : w.cell? ad = some (.int .i64 a)) (hy : w.cell? (ad.add 1) = some (.int .i64 b)) :
    (Builtin.copy_ #[77, 77] ty #[.slice (some ⟨g, 0, none⟩) n cap, .slice (some ad) 1 c]).run Try.prog w = .ok (.int .i64 1) (w.setCells g 0 (flat a b 1)) := by
  have hm : Nat.min 1 n = 1 := Nat.min_eq_left h1
  have := run_copy_sized (P := Try.prog) w 77 77 ty 27 g 0 n cap ad 1 c 2 (flat a b 1) Try.underlying77 (by simpa using congrArg (fun o => o.map (fun q => q.2.1)) infoF) (by rw [hm]; rfl) (by
      intro j v hj
      match j, hj with
      | 0, hj => (obtain rfl : (Value.int .i64 a) = v := by simpa [flat] using hj); rw [Addr.add_zero']; exact hx
      | 1, hj => (obtain rfl : (Value.int .i64 b) = v := by simpa [flat] using hj); exact hy) (by
      intro j hj
      rw [Nat.zero_add, cell_of h j (by rw [flat_length] at hj; omega)]
      rfl) (by intro j hj; exact frozen_of h _) (flat_one a b 1)
  rw [hm] at this
  exact this
set_option maxHeartbeats 8000000 in
set_option maxRecDepth 100000 in
theorem repeat_one (a b : Int) (n : Nat) (h1 : 1 ≤ n) (h13 : n ≤ 1000) (ad : Addr) (c : Nat) (w : World) (hx : w.cell? ad = some (.int .i64 a)) (hy : w.cell? (ad.add 1) = some (.int .i64 b)) :
    Calls Try.prog 130 #[.slice (some ad) 1 c, .int .i64 n] w fun e w' => ∃ v : Value, e = .returned v ∧ Kd.R k27 27 w' w.heap.size (fun _ => True) v (List.replicate n ⟨a, b⟩) ∧ Below w.heap.size w w' := by
  have hu64 : IntKind.u64.wrap (n : Int) = n := by simp only [IntKind.wrap_u64]; omega
  have hi64 : IntKind.i64.wrap (n : Int) = n := by simp only [IntKind.wrap_i64]; omega
  have b0 : decide ((n : Int) < 0) = false := decide_eq_false (by omega)
  have b1 : decide ((9223372036854775807 : Int) < (n : Int)) = false := decide_eq_false (by omega)
  have HM := Aside0.mk (mul_one n h13)
  have H1 := Aside0.mk h1
  have H13 := Aside0.mk h13
  have HX := Aside0.mk hx
  have HY := Aside0.mk hy
  clear hx hy
  go_enter Try.func130, Try.ntmps130
  go_wp2_with (first | (go_at_call 163; refine (bits_Mul.calls 1 n 0 n _ HM.out).mono ?_; rintro e w' ⟨rfl, nd, rfl⟩) | ((with_reducible refine gate_dst (N := 30) rfl ?_); (refine Kd.R_make k27 _ 27 rfl (N := 30) rfl 77 _ _ rfl (n : Int) rfl rfl Try.underlying77 (.agg #[.int .i64 0, .int .i64 0]) 16 infoF rfl (by decide) (by omega) z27 (ok := fun _ => True) (okp := fun _ => True) (k27_mkM _ _ _ z27) (fun _ hk => hk) trivial (by omega) (by rw [Int.toNat_natCast]; omega) (Below.refl _ _) (Nat.le_refl _) ?_; intro v30 w7 ho5 hb hg_ hnew_; clear hg_ hnew_; obtain ⟨g, cap, ev, hgb, hgl, hcc⟩ := Kd.R_form ho5 (by rw [List.length_replicate, Int.toNat_natCast]; exact H1.out); rw [List.length_replicate, Int.toNat_natCast] at ev; subst ev; have hnc := (Kd.R_reads' ho5).2.1; rw [Int.toNat_natCast] at ho5; have HN := Aside0.mk ho5; have HB := Aside0.mk (below_step (pw_below_drewN (Below.refl w.heap.size w) nd) hb); have HG := Aside0.mk (show w.heap.size ≤ g from hgb); have HNC := Aside0.mk hnc; have hx7 := (hb.cell (World.block_lt_of_cell? _ _ HX.out)).trans HX.out; have hy7 := (hb.cell (World.block_lt_of_cell? _ _ HY.out)).trans HY.out; have hcp : ∀ (W : World) (ty : TypeId), W = w7 → (Builtin.copy_ #[77, 77] ty #[.slice (some ⟨g, 0, none⟩) n cap, .slice (some ad) 1 c]).run Try.prog W = .ok (.int .i64 1) (w7.setCells g 0 (flat a b 1)) := (by rintro W ty rfl; exact copy_first a b n cap c g ad _ W ty H1.out HN.out hx7 hy7); clear hgl hcc ho5 hb hx7 hy7)))
  go_loopg [8] n (fun gg s8 wr => ∃ m : Nat, 1 ≤ m ∧ m ≤ n ∧ n - m ≤ gg ∧ s8 = .int .i64 m ∧ Aside0 (Kd.R k27 27 wr w.heap.size (fun _ => True) (.slice (some ⟨g, 0, none⟩) n cap) (List.replicate m ⟨a, b⟩ ++ List.replicate (n - m) z27)) ∧ Aside0 (Below w.heap.size w wr))
  case atStart =>
    obtain ⟨p, q⟩ := fills a b 1 0 w7 _ HN.out HB.out HG.out (by rw [List.length_replicate]; exact H1.out)
    refine ⟨1, Nat.le_refl _, H1.out, by omega, rfl, ⟨?_⟩, ⟨q⟩⟩
    rw [List.take_zero, List.nil_append, List.drop_replicate, Nat.zero_add] at p
    exact p
  case round =>
    clear HN HB
    obtain ⟨m, hm1, hmn, hgg, rfl, HR, HBB⟩ := hrel
    by_cases hlt : m < n
    · have hltz : (m : Int) < (n : Int) := by omega
      obtain ⟨q, hq⟩ : ∃ q, Nat.min m (n - m) = q := ⟨_, rfl⟩
      have hq1 : q ≤ m := by rw [← hq]; exact Nat.min_le_left _ _
      have hq2 : q ≤ n - m := by rw [← hq]; exact Nat.min_le_right _ _
      have hq0 : 0 < q := by rw [← hq]; exact Nat.lt_min.2 ⟨by omega, by omega⟩
      have hcap := HNC.out
      have hlen : (List.replicate m (⟨a, b⟩ : S27) ++ List.replicate (n - m) z27).length = n := by rw [List.length_append, List.length_replicate, List.length_replicate]; omega
      have HRd := Aside0.mk (Kd.R_drew HR.out)
      have hcp : ∀ (W : World) (ty : TypeId), W = wr.drew → (Builtin.copy_ #[77, 77] ty #[.slice (some ⟨g, m * 2, none⟩) (n - m) (cap - m), .slice (some ⟨g, 0, none⟩) m cap]).run Try.prog W = .ok (.int .i64 q) (wr.drew.setCells g (m * 2) (flat a b q)) := by
        rintro W ty rfl
        have := run_copy_sized (P := Try.prog) wr.drew 77 77 ty 27 g (m * 2) (n - m) (cap - m) ⟨g, 0, none⟩ m cap 2 (flat a b q) Try.underlying77 (by simpa using congrArg (fun o => o.map (fun q => q.2.1)) infoF) (by rw [flat_length, hq]) (by
          intro j v hj
          have hjl := (List.getElem?_eq_some_iff.1 hj).1
          rw [flat_length] at hjl
          have hv := flat_at a b q j v hj
          rw [add_at, Nat.zero_add, cell_of HRd.out j (by omega), hv]
          have e : rd_T27 (List.replicate m (⟨a, b⟩ : S27) ++ List.replicate (n - m) z27) ((j / 2 : Nat) : Int) = ⟨a, b⟩ := by
            have hjm : j / 2 < m := by omega
            unfold rd_T27
            rw [Int.toNat_natCast, List.getD_eq_getElem?_getD, List.getElem?_append_left (by rw [List.length_replicate]; exact hjm), List.getElem?_replicate, if_pos hjm]
            rfl
          rw [e]) (by
          intro j hj
          rw [flat_length] at hj
          rw [cell_of HRd.out (m * 2 + j) (by omega)]
          rfl) (by intro j hj; exact frozen_of HRd.out _) (flat_one a b q)
        rw [hq] at this
        exact this
      have HZ := Aside0.mk (fills a b q m wr.drew _ HRd.out (below_drew1 HBB.out) HG.out (by rw [hlen]; omega))
      have pm : (0 ≤ (m : Int)) = True := eq_true (by omega)
      have qm : ((m : Int) ≤ (n : Int)) = True := eq_true (by omega)
      have qm1 : (m ≤ n) = True := eq_true hmn
      have qm2 : ((m : Int) ≤ (cap : Int)) = True := eq_true (by omega)
      have qm3 : (m ≤ cap) = True := eq_true (by omega)
      have qm4 : (cap = m) = False := eq_false (by omega)
      have qm5 : (m = cap) = False := eq_false (by omega)
      clear hlen
      go_wp2
      go_region
      all_goals go_wp2
      go_roundg (n - (m + q))
      case measure => omega
      case rel =>
        refine ⟨m + q, by omega, by omega, by omega, ?_, ⟨?_⟩, ⟨HZ.out.2⟩⟩
        · congr 1
        · have h := HZ.out.1
          have e1 : (List.replicate m (⟨a, b⟩ : S27) ++ List.replicate (n - m) z27).take m = List.replicate m ⟨a, b⟩ := by
            rw [List.take_left' (by rw [List.length_replicate])]
          have e2 : (List.replicate m (⟨a, b⟩ : S27) ++ List.replicate (n - m) z27).drop (m + q) = List.replicate (n - (m + q)) z27 := by
            rw [← List.drop_drop, List.drop_left' (by rw [List.length_replicate]), List.drop_replicate]
            congr 1
            omega
          rw [e1, e2, ← List.replicate_append_replicate.symm] at h
          exact h
    · have hltz : ¬ (m : Int) < (n : Int) := by omega
      obtain rfl : m = n := by omega
      go_wp2
      go_ret
      refine ⟨_, rfl, ?_, HBB.out⟩
      have := HR.out
      rwa [Nat.sub_self, List.replicate_zero, List.append_nil] at this
end RepP
/-- A fraction so many times. -/
def impl_Fraction.f (l0 : List S27) (a1 : Int) : Option (List S27) := if l0.length = 1 ∧ 1 ≤ a1 ∧ a1 ≤ 1000 then some (List.replicate a1.toNat (rd_T27 l0 0)) else none
theorem impl_Fraction.calls (A0 : Option Addr) (c0 : Nat) (l0 : List S27) (a1 : Int) (r : List S27) (w : World) (hr0 : Kd.C k27 w A0 l0.length l0) (hc0 : l0.length ≤ c0) (h : impl_Fraction.f l0 a1 = some r) :
    Calls Try.prog 130 #[.slice A0 l0.length c0, .int .i64 a1] w fun e w' => ∃ v0_ : Value, e = .returned (v0_) ∧ Kd.R k27 27 w' w.heap.size (fun _ => True) v0_ r ∧ Below w.heap.size w w' := by
  unfold impl_Fraction.f at h
  by_cases hl : l0.length = 1 ∧ 1 ≤ a1 ∧ a1 ≤ 1000
  · rw [if_pos hl] at h
    obtain rfl := Option.some.inj h
    obtain ⟨n, rfl⟩ : ∃ n : Nat, a1 = n := ⟨a1.toNat, by omega⟩
    obtain ⟨ad, rfl, x0, x1⟩ := at_T27 hr0 0 (by omega) (by omega)
    rw [hl.1, Int.toNat_natCast]
    exact RepP.repeat_one (rd_T27 l0 0).f0 (rd_T27 l0 0).f1 n (by omega) (by omega) ad c0 w (by simpa [Addr.add] using x0) (by simpa [Addr.add] using x1)
  · rw [if_neg hl] at h
    cases h


/-! ### impl_zero: function 131 -/
def impl_zero.f  : Option (Int × Int) := some (0, 1)
set_option maxHeartbeats 8000000 in
set_option maxRecDepth 100000 in
theorem impl_zero.calls  (r1 : Int) (r2 : Int) (w : World) (h : impl_zero.f  = some (r1, r2)) :
    Calls Try.prog 131 #[] w fun e w' => e = .returned (.agg #[.int .i64 r1, .int .i64 r2]) ∧ Below w.heap.size w w' := by
  have hu27 := Try.underlying27
  have HB := Aside0.mk (Below.refl w.heap.size w)
  have H : (some (0, 1)) = some (r1, r2) := h
  clear h
  simp only [Option.some.injEq, Prod.mk.injEq] at H
  obtain ⟨rfl, rfl⟩ := H
  go_enter Try.func131, Try.ntmps131
  go_wp2_with (first | ((with_reducible refine gate_dst (N := 0) rfl ?_); refine zX 0 (#[.int .i64 0, .int .i64 0]) 27 ?_; intro gb306 hg w1 hbox hb; have BK306 := Aside0.mk (hbox); have GW306 := Aside0.mk (zG : w.heap.size ≤ gb306); have GE306 := Aside0.mk (zG : w.heap.size ≤ gb306); replace HB := Aside0.mk (below_step zB hb); clear hb hbox hg; obtain ⟨hcz2_0, hcz2_1, hfz2_0, hfz2_1⟩ := zC2 BK306))
  refine bodyPost_ret (results_cell_row rfl _ _ gb306 27 #[.int .i64 0, .int .i64 1] (0, 0) _ rfl (by (with_reducible repeat (first | refine blk_drewN ?_ _ | refine blk_drew ?_ | refine blk_alloc ?_ _)); refine blk_put (cs := #[.int .i64 0, .int .i64 0]) ?_ 1 _ rfl; (with_reducible repeat (first | refine blk_drewN ?_ _ | refine blk_drew ?_ | refine blk_alloc ?_ _)); refine blk_put (cs := #[.int .i64 0, .int .i64 0]) ?_ 0 _ rfl; exact zK) Try.underlying27 rfl (by kernel_rfl)) rfl ?_
  exact ⟨by first | rfl | (simp [errW_none, errW_some] <;> rfl) | (simp [*, errW_none, errW_some] <;> rfl), zB⟩


/-! ### impl_letter: function 170 -/
def impl_letter.f (a0 : Int) : Option (ByteArray) := some (strOfNums (([(48 + ((a0) % 256)) % 256] : List Int)))
set_option maxHeartbeats 8000000 in
set_option maxRecDepth 100000 in
theorem impl_letter.calls (a0 : Int) (r : ByteArray) (w : World) (h : impl_letter.f a0 = some r) :
    Calls Try.prog 170 #[.int .i64 a0] w fun e w' => e = .returned (.string r) ∧ Below w.heap.size w w' := by
  have HB := Aside0.mk (Below.refl w.heap.size w)
  have H : (some (strOfNums (([(48 + ((a0) % 256)) % 256] : List Int)))) = some r := h
  clear h
  obtain ⟨y307, hy307⟩ : ∃ y_ : List Int, y_ = (([(48 + ((a0) % 256)) % 256] : List Int)) := ⟨_, rfl⟩
  replace H : (some (strOfNums y307)) = some r := by first | (rw [hy307]; with_reducible exact H) | (have H2_ := (Option.bind_some _ _).symm.trans H; rw [hy307]; with_reducible exact H2_) | (have H2_ := (Option.bind_some _ _).symm.trans H; with_reducible exact H2_) | with_reducible exact H | (rw [hy307]; exact H) | exact H
  have Ny307 := Aside0.mk hy307
  clear hy307
  obtain rfl := Option.some.inj H
  go_enter Try.func170, Try.ntmps170
  go_wp2_with (first | ((with_reducible refine gate_dst (N := 6) rfl ?_); refine Kd.R_lit (Kd.int .u8) _ 5 ?hg (N := 6) ?hd (xs := ([(48 + ((a0) % 256)) % 256] : List Int)) (inner := [.int .u8 ((48 + ((a0) % 256)) % 256)]) (ok := fun _ => True) (okp := fun _ => True) ?hr ?hp (fun _ hk => hk) trivial (Below.refl _ _) (Nat.le_refl _) (by simp) ?_; (case hd => rfl); (case hg => rfl); (case hr => first | (go_simp; done) | (go_simp; rfl)); (case hp => exact (Reps.one (show Kd.M (Kd.int .u8) _ _ _ ((48 + ((a0) % 256)) % 256) [.int .u8 ((48 + ((a0) % 256)) % 256)] from rfl) (Reps.none _ _))); intro v308 w2 ho3 hb hg_ hnew_; clear hg_ hnew_; (first | rw [← Ny307.out] at ho3 | (simp only [Int.reduceToNat] at ho3; rw [← Ny307.out] at ho3)); have HO309 := Aside0.mk (Kd.R_lower ho3 (below_size zB)); replace HB := Aside0.mk (below_step zB hb); clear hb ho3; have hcv4 := own_string (P := Try.prog) Try.underlying112 Try.underlying5 Try.underlying9 (Kd.own_of_R HO309.out)))
  go_ret
  exact ⟨by first | rfl | (simp [errW_none, errW_some] <;> rfl) | (simp [*, errW_none, errW_some] <;> rfl), zB⟩


end Go.Proofs.Ytcklefgkbddlhaa.P
