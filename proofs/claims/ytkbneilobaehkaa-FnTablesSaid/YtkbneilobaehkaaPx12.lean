/- What a call of each Go function named below comes to is what the plain Lean function beside it says. Made by a program of this session out of the print of the translation; Lean checks it. -/
import Derived.Test.YtkbneilobaehkaaPx0
import Derived.Test.YtkbneilobaehkaaPx1
import Derived.Test.YtkbneilobaehkaaPx4
import Derived.Test.YtkbneilobaehkaaPx7
import Derived.Test.YtkbneilobaehkaaPx8
import Derived.Test.YtkbneilobaehkaaHandRows
namespace Go.Proofs.Ytkbneilobaehkaa.P
open Go.RowKit Go.Proofs.YtkbneilobaehkaaW.PrintWords Go.Proofs.YtkbneilobaehkaaW.PrintLast Go.Proofs.YtkbneilobaehkaaW.PrintMore
attribute [local go_sem] max2_int min2_int max_two min_two max_three min_three max_four min_four   -- for this text's walks alone
set_option linter.unusedVariables false
set_option linter.unusedSimpArgs false
set_option maxHeartbeats 8000000
set_option maxRecDepth 100000


/-! ### spec_AreTables: function 12 -/
def spec_AreTables.f (k : Nat) (a0 : Int) (l1 : List (List (List Int))) : Option (Bool) := (spec_l08Are.f k a0 l1).bind fun t310 => (some t310)
theorem spec_AreTables.mono : ∀ a0 a1 k, LeO (spec_AreTables.f k a0 a1) (spec_AreTables.f (k + 1) a0 a1) := by
 intro a0 a1 k
 unfold spec_AreTables.f
 repeat' first
  | (with_reducible exact spec_l08Are.mono _ _ _)
  | (with_reducible exact LeO.refl _)
  | (with_reducible exact LeO.none _)
  | (with_reducible refine LeO.ite ?_ ?_)
  | (with_reducible refine LeO.bind ?_ (fun _ => ?_))
theorem spec_AreTables.calls (k : Nat) (a0 : Int) (A1 : Option Addr) (c1 : Nat) (l1 : List (List (List Int))) (r : Bool) (w : World) (hr1 : Kd.C (Kd.slice 45 (Kd.slice 2 (Kd.int .i64))) w A1 l1.length l1) (hc1 : l1.length ≤ c1) (h : spec_AreTables.f k a0 l1 = some r) :
 Calls Try.prog 12 #[.int .i64 a0, .slice A1 l1.length c1] w fun e w' => e = .returned (.bool r) ∧ Drawn0 w w' := by
 have HR1 := zA hr1
 have HC1 := zA hc1
 clear hr1 hc1
 have H : ((spec_l08Are.f k a0 l1).bind fun t310 => (some t310)) = some r := h
 clear h
 replace H := Option.bind_eq_some_iff.mp H
 obtain ⟨t310, A30, H⟩ := H
 replace H : (some t310) = some r := H
 have A3 := zA A30
 clear A30
 obtain rfl := Option.some.inj H
 go_enter Try.func12, Try.ntmps12
 go_wp2_with (first | ((with_reducible refine gate_callee (f := 48) rfl ?_); refine goesL_ (some 7) rfl rfl Try.func48 (by kernel_rfl) rfl #[.int .i64 a0, .slice A1 l1.length c1] rfl zM ?_; (with_reducible refine (spec_l08Are.calls k a0 _ _ l1 t310 _ ?side1 ?side2 A3.out).mono ?_); (case side1 => repeat (exact HR1.out)); (case side2 => exact HC1.out); rintro e w' ⟨rfl, ⟨nd, rfl⟩⟩; refine ⟨_, rfl, ?_⟩))
 go_ret
 exact ⟨by rfl, by repeat (first | exact Drawn0.refl _ | apply Drawn0.step)⟩


/-! ### spec_l01Near: function 58 -/
def spec_l01Near.f (s0_0 : List Int) (s0_1 : Int) (s0_2 : Int) (a1 : Int) : Option (Int × Int × Int) := (spec_l01Next.f s0_0 s0_1 s0_2 14).bind fun bt311 => (if bt311.1 = 0 then ((spec_l01Pick.f s0_0 bt311.2.1 bt311.2.2 (([(-1), wrap64 (a1 + 1), 1099511627776, (-4611686018427387904)] : List Int))).bind fun bt317 => (some (bt317.1, bt317.2.1, bt317.2.2))) else ((spec_l01Next.f s0_0 bt311.2.1 bt311.2.2 (wrap64 (a1 + 1))).bind fun bt320 => (some (bt320.1, bt320.2.1, bt320.2.2))))
theorem spec_l01Near.calls (g : Nat) (s0_0 : List Int) (s0_1 : Int) (s0_2 : Int) (a1 : Int) (r1 : Int) (r2 : Int) (r3 : Int) (w0 w : World) (hI : IsS104 w0 w g s0_0 s0_1 s0_2) (hB : Below w0.heap.size w0 w) (h : spec_l01Near.f s0_0 s0_1 s0_2 a1 = some (r1, r2, r3)) :
 Calls Try.prog 58 #[.pointer (some ⟨g, 0, none⟩), .int .i64 a1] w fun e w' => e = .returned (.int .i64 r1) ∧ IsS104 w0 w' g s0_0 r2 r3 ∧ Below w0.heap.size w0 w' ∧ KeepBut w w' g none := by
 have HI0 := zA hI
 have HK := zA (KeepBut.refl w g none)
 have HL := zA hB.size
 clear hI
 have HW0 := zA hB.size
 have HB := zA hB
 clear hB
 have H : ((spec_l01Next.f s0_0 s0_1 s0_2 14).bind fun bt311 => (if bt311.1 = 0 then ((spec_l01Pick.f s0_0 bt311.2.1 bt311.2.2 (([(-1), wrap64 (a1 + 1), 1099511627776, (-4611686018427387904)] : List Int))).bind fun bt317 => (some (bt317.1, bt317.2.1, bt317.2.2))) else ((spec_l01Next.f s0_0 bt311.2.1 bt311.2.2 (wrap64 (a1 + 1))).bind fun bt320 => (some (bt320.1, bt320.2.1, bt320.2.2))))) = some (r1, r2, r3) := h
 clear h
 replace H := Option.bind_eq_some_iff.mp H
 obtain ⟨⟨t311, t312, t313⟩, A30, H⟩ := H
 replace H : (if t311 = 0 then ((spec_l01Pick.f s0_0 t312 t313 (([(-1), wrap64 (a1 + 1), 1099511627776, (-4611686018427387904)] : List Int))).bind fun bt317 => (some (bt317.1, bt317.2.1, bt317.2.2))) else ((spec_l01Next.f s0_0 t312 t313 (wrap64 (a1 + 1))).bind fun bt320 => (some (bt320.1, bt320.2.1, bt320.2.2)))) = some (r1, r2, r3) := H
 have A3 := zA A30
 clear A30
 by_cases c4 : t311 = 0
 ·rw [if_pos c4] at H
  have c4b0 : (t311 == 0) = true := beq_iff_eq.mpr c4
  have c4b1 : (t311 != 0) = false := bne_eq_false_iff_eq.mpr c4
  clear c4
  obtain ⟨y314, hy314⟩ : ∃ y_ : List Int, y_ = (([(-1), wrap64 (a1 + 1), 1099511627776, (-4611686018427387904)] : List Int)) := ⟨_, rfl⟩
  replace H : ((spec_l01Pick.f s0_0 t312 t313 y314).bind fun bt317 => (some (bt317.1, bt317.2.1, bt317.2.2))) = some (r1, r2, r3) := by (rw [hy314]; with_reducible exact H)
  have Ny314 := zA hy314
  clear hy314
  replace H := Option.bind_eq_some_iff.mp H
  obtain ⟨⟨t317, t318, t319⟩, A50, H⟩ := H
  replace H : (some (t317, t318, t319)) = some (r1, r2, r3) := H
  have A5 := zA A50
  clear A50
  simp only [Option.some.injEq, Prod.mk.injEq] at H
  obtain ⟨rfl, rfl, rfl⟩ := H
  go_enter Try.func58, Try.ntmps58
  go_wp2_with (first | ((with_reducible refine gate_callee (f := 67) rfl ?_); refine goesL_ (some 6) rfl rfl Try.func67 (by kernel_rfl) rfl #[.pointer (some ⟨g, 0, none⟩), .int .i64 14] rfl zM ?_; (with_reducible refine (spec_l01Next.calls g s0_0 s0_1 s0_2 14 t311 t312 t313 w0 _ ?side1 ?side2 A3.out).mono ?_); (case side1 => repeat ((with_reducible exact HI0.out))); (case side2 => repeat ((with_reducible exact HB.out))); rintro e w6 ⟨rfl, hi, hb, hk⟩; refine ⟨_, rfl, ?_⟩; replace HK := zA (KeepBut.trans (by repeat ((with_reducible exact HK.out))) hk (.inl rfl)); replace HI0 := zA (hi); replace HB := zA (hb); (try clear hb); (try clear hb2); (try clear hk); (try clear hi)) | ((with_reducible refine gate_dst (N := 11) rfl ?_); refine Kd.R_lit (Kd.int .i64) _ 2 ?hg (N := 11) ?hd (xs := ([(-1), wrap64 (a1 + 1), 1099511627776, (-4611686018427387904)] : List Int)) (inner := [.int .i64 (-1), .int .i64 (wrap64 (a1 + 1)), .int .i64 1099511627776, .int .i64 (-4611686018427387904)]) (ok := fun _ => True) (okp := fun _ => True) ?hr ?hp (fun _ hk => hk) trivial (Below.refl _ _) (Nat.le_refl _) (by simp) ?_; (case hd => rfl); (case hg => rfl); (case hr => (go_simp; done)); (case hp => exact (Reps.one (show Kd.M (Kd.int .i64) _ _ _ (-1) [.int .i64 (-1)] from rfl) (Reps.one (show Kd.M (Kd.int .i64) _ _ _ (wrap64 (a1 + 1)) [.int .i64 (wrap64 (a1 + 1))] from rfl) (Reps.one (show Kd.M (Kd.int .i64) _ _ _ 1099511627776 [.int .i64 1099511627776] from rfl) (Reps.one (show Kd.M (Kd.int .i64) _ _ _ (-4611686018427387904) [.int .i64 (-4611686018427387904)] from rfl) (Reps.none _ _)))))); intro v315 w7 ho8 hb hg_ hnew_; clear hg_ hnew_; (rw [← Ny314.out] at ho8); have n0_ := zA (Kd.R_lower ho8 (keep_size (w := w) (g := g) (row := none) (by repeat ((with_reducible exact HK.out))))); have n1_ := zA (IsS104.below (by repeat ((with_reducible exact HI0.out))) hb); have n2_ := zA (KeepBut.trans (by repeat ((with_reducible exact HK.out))) (KeepBut.of_below hb g none) (.inl rfl)); have n3_ := zA (below_step (by repeat ((with_reducible exact HB.out))) hb); clear HI0; clear HK; clear HB; have HO316 := n0_; have HI0 := n1_; have HK := n2_; have HB := n3_; clear n0_ n1_ n2_ n3_; clear hb ho8; obtain ⟨Ao9, co9, eo9⟩ := Kd.R_slice HO316.out; subst eo9) | ((with_reducible refine gate_callee (f := 57) rfl ?_); refine goesL_ (some 12) rfl rfl Try.func57 (by kernel_rfl) rfl #[.pointer (some ⟨g, 0, none⟩), .slice Ao9 y314.length co9] rfl zM ?_; (with_reducible refine (spec_l01Pick.calls g s0_0 t312 t313 _ _ y314 t317 t318 t319 w0 _ ?side1 ?side2 ?side3 ?side4 ?side5 A5.out).mono ?_); (case side1 => repeat ((with_reducible exact HI0.out))); (case side2 => repeat ((with_reducible exact HB.out))); (case side3 => repeat (exact (Kd.R_reads' HO316.out).2.2)); (case side4 => exact (Kd.R_reads' HO316.out).2.1); (case side5 => exact far_slice (IsS104.own_ne HI0.out HO316.out (by decide))); rintro e w10 ⟨rfl, hi, hb, hk⟩; refine ⟨_, rfl, ?_⟩; replace HO316 := zA (Kd.R_mono (Kd.R_keep (IsS104.apart (show IsS104 w0 _ g s0_0 t312 t313 from by repeat ((with_reducible exact HI0.out))) zR (by decide)) hk (fun _ h => h.2)) (fun _ h => h.1)); replace HK := zA (KeepBut.trans (by repeat ((with_reducible exact HK.out))) hk (.inl rfl)); replace HI0 := zA (hi); replace HB := zA (hb); (try clear hb); (try clear hb2); (try clear hk); (try clear hi)))
  go_ret
  exact ⟨by rfl, by repeat ((with_reducible exact HI0.out)), by repeat ((with_reducible exact HB.out)), by repeat ((with_reducible exact HK.out))⟩
 ·rw [if_neg c4] at H
  have c4b0 : (t311 == 0) = false := beq_eq_false_iff_ne.mpr c4
  have c4b1 : (t311 != 0) = true := bne_iff_ne.mpr c4
  replace H := Option.bind_eq_some_iff.mp H
  obtain ⟨⟨t320, t321, t322⟩, A110, H⟩ := H
  replace H : (some (t320, t321, t322)) = some (r1, r2, r3) := H
  have A11 := zA A110
  clear A110
  simp only [Option.some.injEq, Prod.mk.injEq] at H
  obtain ⟨rfl, rfl, rfl⟩ := H
  go_enter Try.func58, Try.ntmps58
  go_wp2_with (first | ((with_reducible refine gate_callee (f := 67) rfl ?_); refine goesL_ (some 6) rfl rfl Try.func67 (by kernel_rfl) rfl #[.pointer (some ⟨g, 0, none⟩), .int .i64 14] rfl zM ?_; (with_reducible refine (spec_l01Next.calls g s0_0 s0_1 s0_2 14 t311 t312 t313 w0 _ ?side1 ?side2 A3.out).mono ?_); (case side1 => repeat ((with_reducible exact HI0.out))); (case side2 => repeat ((with_reducible exact HB.out))); rintro e w12 ⟨rfl, hi, hb, hk⟩; refine ⟨_, rfl, ?_⟩; replace HK := zA (KeepBut.trans (by repeat ((with_reducible exact HK.out))) hk (.inl rfl)); replace HI0 := zA (hi); replace HB := zA (hb); (try clear hb); (try clear hb2); (try clear hk); (try clear hi)) | ((with_reducible refine gate_callee (f := 67) rfl ?_); refine goesL_ (some 16) rfl rfl Try.func67 (by kernel_rfl) rfl #[.pointer (some ⟨g, 0, none⟩), .int .i64 (wrap64 (a1 + 1))] rfl zM ?_; (with_reducible refine (spec_l01Next.calls g s0_0 t312 t313 (wrap64 (a1 + 1)) t320 t321 t322 w0 _ ?side1 ?side2 A11.out).mono ?_); (case side1 => repeat ((with_reducible exact HI0.out))); (case side2 => repeat ((with_reducible exact HB.out))); rintro e w13 ⟨rfl, hi, hb, hk⟩; refine ⟨_, rfl, ?_⟩; replace HK := zA (KeepBut.trans (by repeat ((with_reducible exact HK.out))) hk (.inl rfl)); replace HI0 := zA (hi); replace HB := zA (hb); (try clear hb); (try clear hb2); (try clear hk); (try clear hi)))
  go_ret
  exact ⟨by rfl, by repeat ((with_reducible exact HI0.out)), by repeat ((with_reducible exact HB.out)), by repeat ((with_reducible exact HK.out))⟩


/-! ### spec_DrawVanishAt: function 13 -/
def spec_DrawVanishAt.f (k : Nat) (l0 : List Int) : Option (Int × (List (List (List Int))) × Int) := (spec_l01From.f k l0).bind fun bt323 => ((spec_l08With.f k l0).bind fun bt327 => ((spec_l01Near.f bt323.1 bt323.2.1 bt323.2.2 4).bind fun bt332 => ((spec_l01Pick.f bt323.1 bt332.2.1 bt332.2.2 (([0, 1, 2, 2, 3, bt332.1] : List Int))).bind fun bt338 => (some (bt327.1, bt327.2.1, bt338.1)))))
theorem spec_DrawVanishAt.mono : ∀ a0 k, LeO (spec_DrawVanishAt.f k a0) (spec_DrawVanishAt.f (k + 1) a0) := by
 intro a0 k
 unfold spec_DrawVanishAt.f
 repeat' first
  | (with_reducible exact spec_l01From.mono _ _)
  | (with_reducible exact spec_l08With.mono _ _)
  | (with_reducible exact LeO.refl _)
  | (with_reducible exact LeO.none _)
  | (with_reducible refine LeO.ite ?_ ?_)
  | (with_reducible refine LeO.bind ?_ (fun _ => ?_))
theorem spec_DrawVanishAt.calls (k : Nat) (A0 : Option Addr) (c0 : Nat) (l0 : List Int) (r1 : Int) (r2 : List (List (List Int))) (r3 : Int) (w : World) (hr0 : Kd.C (Kd.int .u8) w A0 l0.length l0) (hc0 : l0.length ≤ c0) (h : spec_DrawVanishAt.f k l0 = some (r1, r2, r3)) :
 Calls Try.prog 13 #[.slice A0 l0.length c0] w fun e w' => ∃ v1_ : Value, e = .returned (.tuple #[.int .i64 r1, v1_, .int .i64 r3]) ∧ Kd.N (Kd.slice 45 (Kd.slice 2 (Kd.int .i64))) 27 w' w.heap.size (fun k_ => (w.heap.size ≤ k_)) v1_ r2 ∧ Below w.heap.size w w' := by
 have HR0 := zA hr0
 have HC0 := zA hc0
 clear hr0 hc0
 have HB := zA (Below.refl w.heap.size w)
 have H : ((spec_l01From.f k l0).bind fun bt323 => ((spec_l08With.f k l0).bind fun bt327 => ((spec_l01Near.f bt323.1 bt323.2.1 bt323.2.2 4).bind fun bt332 => ((spec_l01Pick.f bt323.1 bt332.2.1 bt332.2.2 (([0, 1, 2, 2, 3, bt332.1] : List Int))).bind fun bt338 => (some (bt327.1, bt327.2.1, bt338.1)))))) = some (r1, r2, r3) := h
 clear h
 replace H := Option.bind_eq_some_iff.mp H
 obtain ⟨⟨t323, t324, t325⟩, A20, H⟩ := H
 replace H : ((spec_l08With.f k l0).bind fun bt327 => ((spec_l01Near.f t323 t324 t325 4).bind fun bt332 => ((spec_l01Pick.f t323 bt332.2.1 bt332.2.2 (([0, 1, 2, 2, 3, bt332.1] : List Int))).bind fun bt338 => (some (bt327.1, bt327.2.1, bt338.1))))) = some (r1, r2, r3) := H
 have A2 := zA A20
 clear A20
 replace H := Option.bind_eq_some_iff.mp H
 obtain ⟨⟨t327, t328, t331⟩, A30, H⟩ := H
 replace H : ((spec_l01Near.f t323 t324 t325 4).bind fun bt332 => ((spec_l01Pick.f t323 bt332.2.1 bt332.2.2 (([0, 1, 2, 2, 3, bt332.1] : List Int))).bind fun bt338 => (some (t327, t328, bt338.1)))) = some (r1, r2, r3) := H
 have A3 := zA A30
 clear A30
 replace H := Option.bind_eq_some_iff.mp H
 obtain ⟨⟨t332, t333, t334⟩, A40, H⟩ := H
 replace H : ((spec_l01Pick.f t323 t333 t334 (([0, 1, 2, 2, 3, t332] : List Int))).bind fun bt338 => (some (t327, t328, bt338.1))) = some (r1, r2, r3) := H
 have A4 := zA A40
 clear A40
 obtain ⟨y335, hy335⟩ : ∃ y_ : List Int, y_ = (([0, 1, 2, 2, 3, t332] : List Int)) := ⟨_, rfl⟩
 replace H : ((spec_l01Pick.f t323 t333 t334 y335).bind fun bt338 => (some (t327, t328, bt338.1))) = some (r1, r2, r3) := by (rw [hy335]; with_reducible exact H)
 have Ny335 := zA hy335
 clear hy335
 replace H := Option.bind_eq_some_iff.mp H
 obtain ⟨⟨t338, t339, t340⟩, A50, H⟩ := H
 replace H : (some (t327, t328, t338)) = some (r1, r2, r3) := H
 have A5 := zA A50
 clear A50
 simp only [Option.some.injEq, Prod.mk.injEq] at H
 obtain ⟨rfl, rfl, rfl⟩ := H
 go_enter Try.func13, Try.ntmps13
 go_wp2_with (first | ((with_reducible refine gate_callee (f := 56) rfl ?_); refine goesL_ (some 10) rfl rfl Try.func56 (by kernel_rfl) rfl #[.slice A0 l0.length c0] rfl zM ?_; (with_reducible refine (spec_l01From.calls k _ _ l0 t323 t324 t325 w _ ?side1 ?side2 ?side3 A2.out).mono ?_); (case side1 => repeat ((with_reducible exact HB.out))); (case side2 => exact HR0.out); (case side3 => exact HC0.out); rintro e w6 ⟨g326, rfl, hi, hb, hb2⟩; refine ⟨_, rfl, ?_⟩; have HI326 := zA (hi); replace HB := zA (hb); (try clear hb); (try clear hb2); (try clear hk); (try clear hi)) | ((with_reducible refine gate_callee (f := 45) rfl ?_); refine goesL_ (some 13) rfl rfl Try.func45 (by kernel_rfl) rfl #[.slice A0 l0.length c0] rfl zM ?_; (with_reducible refine (spec_l08With.calls k _ _ l0 t327 t328 t331 _ ?side1 ?side2 A3.out).mono ?_); (case side1 => repeat (exact (Kd.C_below HR0.out HB.out))); (case side2 => exact HC0.out); rintro e w7 ⟨v329, rfl, ho0, hb⟩; refine ⟨_, rfl, ?_⟩; have n0_ := zA (Kd.N_lower (Kd.N_mono (ok' := fun k_ => (w.heap.size ≤ k_) ∧ k_ ≠ g326) ho0 (fun k_ hk_ => ⟨(Nat.le_trans (below_size (by repeat ((with_reducible exact HB.out)))) hk_), (IsS104.fresh (by repeat ((with_reducible exact HI326.out))) k_ hk_)⟩)) (below_size (by repeat ((with_reducible exact HB.out))))); have n1_ := zA (IsS104.below (by repeat ((with_reducible exact HI326.out))) hb); have n2_ := zA (below_step (by repeat ((with_reducible exact HB.out))) hb); clear HI326; clear HB; have HO330 := n0_; have HI326 := n1_; have HB := n2_; clear n0_ n1_ n2_; (try clear hb); (try clear hb2); (try clear hk); (try clear hi); (try clear ho0)) | ((with_reducible refine gate_callee (f := 58) rfl ?_); refine goesL_ (some 21) rfl rfl Try.func58 (by kernel_rfl) rfl #[.pointer (some ⟨g326, 0, none⟩), .int .i64 4] rfl zM ?_; (with_reducible refine (spec_l01Near.calls g326 t323 t324 t325 4 t332 t333 t334 w _ ?side1 ?side2 A4.out).mono ?_); (case side1 => repeat ((with_reducible exact HI326.out))); (case side2 => repeat ((with_reducible exact HB.out))); rintro e w8 ⟨rfl, hi, hb, hk⟩; refine ⟨_, rfl, ?_⟩; replace HO330 := zA (Kd.N_mono (Kd.N_keep (Kd.N_mono (ok := fun k_ => (((w.heap.size ≤ k_)) ∧ k_ ≠ g326)) (by exact HO330.out) (fun k_ hk_ => (⟨hk_, hk_.2⟩ : _ ∧ k_ ≠ g326))) hk (fun _ h => h.2)) (fun _ h => h.1)); replace HI326 := zA (hi); replace HB := zA (hb); (try clear hb); (try clear hb2); (try clear hk); (try clear hi)) | ((with_reducible refine gate_dst (N := 22) rfl ?_); refine Kd.R_lit (Kd.int .i64) _ 2 ?hg (N := 22) ?hd (xs := ([0, 1, 2, 2, 3, t332] : List Int)) (inner := [.int .i64 0, .int .i64 1, .int .i64 2, .int .i64 2, .int .i64 3, .int .i64 t332]) (ok := fun _ => True) (okp := fun _ => True) ?hr ?hp (fun _ hk => hk) trivial (Below.refl _ _) (Nat.le_refl _) (by simp) ?_; (case hd => rfl); (case hg => rfl); (case hr => (go_simp; done)); (case hp => exact (Reps.one (show Kd.M (Kd.int .i64) _ _ _ 0 [.int .i64 0] from rfl) (Reps.one (show Kd.M (Kd.int .i64) _ _ _ 1 [.int .i64 1] from rfl) (Reps.one (show Kd.M (Kd.int .i64) _ _ _ 2 [.int .i64 2] from rfl) (Reps.one (show Kd.M (Kd.int .i64) _ _ _ 2 [.int .i64 2] from rfl) (Reps.one (show Kd.M (Kd.int .i64) _ _ _ 3 [.int .i64 3] from rfl) (Reps.one (show Kd.M (Kd.int .i64) _ _ _ t332 [.int .i64 t332] from rfl) (Reps.none _ _)))))))); intro v336 w9 ho10 hb hg_ hnew_; clear hg_ hnew_; (rw [← Ny335.out] at ho10); have n0_ := zA (Kd.N_elder' (by exact HO330.out) (Kd.R_base ho10) hb); have n1_ := zA (Kd.R_lower (Kd.R_newM (M := fun k_ => (w.heap.size ≤ k_)) ho10 (below_size (by repeat ((with_reducible exact HB.out)))) (fun k_ h_ => h_)) (below_size (by repeat ((with_reducible exact HB.out))))); have n2_ := zA (IsS104.below (by repeat ((with_reducible exact HI326.out))) hb); have n3_ := zA (below_step (by repeat ((with_reducible exact HB.out))) hb); clear HO330; clear HI326; clear HB; have HO330 := n0_; have HO337 := n1_; have HI326 := n2_; have HB := n3_; clear n0_ n1_ n2_ n3_; clear hb ho10; obtain ⟨Ao11, co11, eo11⟩ := Kd.R_slice HO337.out; subst eo11) | ((with_reducible refine gate_callee (f := 57) rfl ?_); refine goesL_ (some 23) rfl rfl Try.func57 (by kernel_rfl) rfl #[.pointer (some ⟨g326, 0, none⟩), .slice Ao11 y335.length co11] rfl zM ?_; (with_reducible refine (spec_l01Pick.calls g326 t323 t333 t334 _ _ y335 t338 t339 t340 w _ ?side1 ?side2 ?side3 ?side4 ?side5 A5.out).mono ?_); (case side1 => repeat ((with_reducible exact HI326.out))); (case side2 => repeat ((with_reducible exact HB.out))); (case side3 => repeat (exact (Kd.R_reads' HO337.out).2.2)); (case side4 => exact (Kd.R_reads' HO337.out).2.1); (case side5 => exact far_slice (IsS104.own_ne HI326.out HO337.out (by decide))); rintro e w12 ⟨rfl, hi, hb, hk⟩; refine ⟨_, rfl, ?_⟩; replace HO330 := zA (Kd.N_mono (Kd.N_keep (Kd.N_mono (ok := fun k_ => ((((w.heap.size ≤ k_)) ∧ k_ ≠ g326) ∧ some k_ ≠ (.slice Ao11 y335.length co11 : Value).ownBlock)) (by exact HO330.out) (fun k_ hk_ => (⟨hk_, hk_.1.2⟩ : _ ∧ k_ ≠ g326))) hk (fun _ h => h.2)) (fun _ h => h.1)); replace HO337 := zA (Kd.R_mono (Kd.R_keep (IsS104.apart (show IsS104 w _ g326 t323 t333 t334 from by repeat ((with_reducible exact HI326.out))) zR (by decide)) hk (fun _ h => h.2)) (fun _ h => h.1)); replace HI326 := zA (hi); replace HB := zA (hb); (try clear hb); (try clear hb2); (try clear hk); (try clear hi)))
 go_ret3
 exact ⟨_, by rfl, by exact Kd.N_mono HO330.out (fun _ hk => hk.1.1), by repeat ((with_reducible exact HB.out))⟩


/-! ### impl_letter: function 95 -/
def impl_letter.f (a0 : Int) : Option (ByteArray) := some (strOfNums (([(48 + ((a0) % 256)) % 256] : List Int)))
theorem impl_letter.calls (a0 : Int) (r : ByteArray) (w : World) (h : impl_letter.f a0 = some r) :
 Calls Try.prog 95 #[.int .i64 a0] w fun e w' => e = .returned (.string r) ∧ Below w.heap.size w w' := by
 have HB := zA (Below.refl w.heap.size w)
 have H : (some (strOfNums (([(48 + ((a0) % 256)) % 256] : List Int)))) = some r := h
 clear h
 obtain ⟨y341, hy341⟩ : ∃ y_ : List Int, y_ = (([(48 + ((a0) % 256)) % 256] : List Int)) := ⟨_, rfl⟩
 replace H : (some (strOfNums y341)) = some r := by (rw [hy341]; with_reducible exact H)
 have Ny341 := zA hy341
 clear hy341
 obtain rfl := Option.some.inj H
 go_enter Try.func95, Try.ntmps95
 go_wp2_with (first | ((with_reducible refine gate_dst (N := 6) rfl ?_); refine Kd.R_lit (Kd.int .u8) _ 5 ?hg (N := 6) ?hd (xs := ([(48 + ((a0) % 256)) % 256] : List Int)) (inner := [.int .u8 ((48 + ((a0) % 256)) % 256)]) (ok := fun _ => True) (okp := fun _ => True) ?hr ?hp (fun _ hk => hk) trivial (Below.refl _ _) (Nat.le_refl _) (by simp) ?_; (case hd => rfl); (case hg => rfl); (case hr => (go_simp; done)); (case hp => exact (Reps.one (show Kd.M (Kd.int .u8) _ _ _ ((48 + ((a0) % 256)) % 256) [.int .u8 ((48 + ((a0) % 256)) % 256)] from rfl) (Reps.none _ _))); intro v342 w2 ho3 hb hg_ hnew_; clear hg_ hnew_; (rw [← Ny341.out] at ho3); have HO343 := zA (Kd.R_lower ho3 (below_size zB)); replace HB := zA (below_step zB hb); clear hb ho3; have hcv4 := own_string (P := Try.prog) Try.underlying22 Try.underlying5 Try.underlying9 (Kd.own_of_R HO343.out)))
 go_ret
 exact ⟨by rfl, zB⟩

/-! ### impl_words: function 59 -/
mutual
def impl_words.l0 : Nat → Int → List ByteArray → Int → Int → Option (List ByteArray)
 | 0, _, _, _, _ => none
 | k + 1, x0, x5, x11, x12 => if x12 < x11 then (impl_words.l1 k x0 ([] : List ByteArray) x11 x12 x5 (x5.length : Int) 0) else (some x5)
def impl_words.l1 : Nat → Int → List ByteArray → Int → Int → List ByteArray → Int → Int → Option (List ByteArray)
 | 0, _, _, _, _, _, _, _ => none
 | k + 1, x0, x6, x11, x12, x14, x15, x16 => if x16 < x15 then (if 0 ≤ x16 then (if x16 < (x14.length : Int) then (impl_words.l2 k x0 x6 (rdOf ByteArray.empty x14 x16) x11 x12 x14 x15 x16 x0 0) else (none)) else (none)) else (impl_words.l0 k x0 x6 x11 (wrap64 (x12 + 1)))
def impl_words.l2 : Nat → Int → List ByteArray → ByteArray → Int → Int → List ByteArray → Int → Int → Int → Int → Option (List ByteArray)
 | 0, _, _, _, _, _, _, _, _, _, _ => none
 | k + 1, x0, x6, x8, x11, x12, x14, x15, x16, x20, x21 => if x21 < x20 then ((impl_letter.f x21).bind fun t348 => (if x8.size + t348.size ≤ 9223372036854775807 then (if x6.length < 8796093022208 then (impl_words.l2 k x0 (x6 ++ [x8 ++ t348]) x8 x11 x12 x14 x15 x16 x20 (wrap64 (x21 + 1))) else (none)) else (none))) else (impl_words.l1 k x0 x6 x11 x12 x14 x15 (wrap64 (x16 + 1)))
end
def impl_words.f (k : Nat) (a0 : Int) (a1 : Int) : Option (List ByteArray) := impl_words.l0 k a0 (([(⟨#[]⟩ : ByteArray)] : List ByteArray)) a1 0
theorem impl_words.mono_l : ∀ k, (∀ y0 y1 y2 y3, LeO (impl_words.l0 k y0 y1 y2 y3) (impl_words.l0 (k + 1) y0 y1 y2 y3)) ∧ (∀ y0 y1 y2 y3 y4 y5 y6, LeO (impl_words.l1 k y0 y1 y2 y3 y4 y5 y6) (impl_words.l1 (k + 1) y0 y1 y2 y3 y4 y5 y6)) ∧ (∀ y0 y1 y2 y3 y4 y5 y6 y7 y8 y9, LeO (impl_words.l2 k y0 y1 y2 y3 y4 y5 y6 y7 y8 y9) (impl_words.l2 (k + 1) y0 y1 y2 y3 y4 y5 y6 y7 y8 y9))
 | 0 => ⟨fun _ _ _ _ r h => by simp [impl_words.l0] at h, fun _ _ _ _ _ _ _ r h => by simp [impl_words.l1] at h, fun _ _ _ _ _ _ _ _ _ _ r h => by simp [impl_words.l2] at h⟩
 | k + 1 => by
  obtain ⟨ih0, ih1, ih2⟩ := impl_words.mono_l k
  refine ⟨?_, ?_, ?_⟩
  ·intro y0 y1 y2 y3
   unfold impl_words.l0
   repeat' first
   | (with_reducible exact ih0 _ _ _ _)
   | (with_reducible exact ih1 _ _ _ _ _ _ _)
   | (with_reducible exact ih2 _ _ _ _ _ _ _ _ _ _)
   | (with_reducible exact LeO.refl _)
   | (with_reducible exact LeO.none _)
   | (with_reducible refine LeO.ite ?_ ?_)
   | (with_reducible refine LeO.bind ?_ (fun _ => ?_))
  ·intro y0 y1 y2 y3 y4 y5 y6
   unfold impl_words.l1
   repeat' first
   | (with_reducible exact ih0 _ _ _ _)
   | (with_reducible exact ih1 _ _ _ _ _ _ _)
   | (with_reducible exact ih2 _ _ _ _ _ _ _ _ _ _)
   | (with_reducible exact LeO.refl _)
   | (with_reducible exact LeO.none _)
   | (with_reducible refine LeO.ite ?_ ?_)
   | (with_reducible refine LeO.bind ?_ (fun _ => ?_))
  ·intro y0 y1 y2 y3 y4 y5 y6 y7 y8 y9
   unfold impl_words.l2
   repeat' first
   | (with_reducible exact ih0 _ _ _ _)
   | (with_reducible exact ih1 _ _ _ _ _ _ _)
   | (with_reducible exact ih2 _ _ _ _ _ _ _ _ _ _)
   | (with_reducible exact LeO.refl _)
   | (with_reducible exact LeO.none _)
   | (with_reducible refine LeO.ite ?_ ?_)
   | (with_reducible refine LeO.bind ?_ (fun _ => ?_))
theorem impl_words.mono : ∀ a0 a1 k, LeO (impl_words.f k a0 a1) (impl_words.f (k + 1) a0 a1) := by
 intro a0 a1 k
 obtain ⟨ih0, ih1, ih2⟩ := impl_words.mono_l k
 unfold impl_words.f
 repeat' first
  | (with_reducible exact ih0 _ _ _ _)
  | (with_reducible exact ih1 _ _ _ _ _ _ _)
  | (with_reducible exact ih2 _ _ _ _ _ _ _ _ _ _)
  | (with_reducible exact LeO.refl _)
  | (with_reducible exact LeO.none _)
  | (with_reducible refine LeO.ite ?_ ?_)
  | (with_reducible refine LeO.bind ?_ (fun _ => ?_))
theorem impl_words.calls (k : Nat) (a0 : Int) (a1 : Int) (r : List ByteArray) (w : World) (h : impl_words.f k a0 a1 = some r) :
 Calls Try.prog 59 #[.int .i64 a0, .int .i64 a1] w fun e w' => ∃ v0_ : Value, e = .returned (v0_) ∧ Kd.R Kd.string 9 w' w.heap.size (fun _ => True) v0_ r ∧ Below w.heap.size w w' := by
 have HB := zA (Below.refl w.heap.size w)
 have H : (impl_words.l0 k a0 (([(⟨#[]⟩ : ByteArray)] : List ByteArray)) a1 0) = some r := h
 clear h
 obtain ⟨y344, hy344⟩ : ∃ y_ : List ByteArray, y_ = (([(⟨#[]⟩ : ByteArray)] : List ByteArray)) := ⟨_, rfl⟩
 replace H : (impl_words.l0 k a0 y344 a1 0) = some r := by (rw [hy344]; with_reducible exact H)
 have Ny344 := zA hy344
 clear hy344
 have H' := zA H
 clear H
 go_enter Try.func59, Try.ntmps59
 go_wp2_with (first | ((with_reducible refine gate_dst (N := 10) rfl ?_); refine Kd.R_lit Kd.string _ 9 ?hg (N := 10) ?hd (xs := ([(⟨#[]⟩ : ByteArray)] : List ByteArray)) (inner := [.string (⟨#[]⟩ : ByteArray)]) (ok := fun _ => True) (okp := fun _ => True) ?hr ?hp (fun _ hk => hk) trivial (Below.refl _ _) (Nat.le_refl _) (by simp) ?_; (case hd => rfl); (case hg => rfl); (case hr => (go_simp; done)); (case hp => exact (Reps.one (show Kd.M Kd.string _ _ _ (⟨#[]⟩ : ByteArray) [.string (⟨#[]⟩ : ByteArray)] from rfl) (Reps.none _ _))); intro v345 w3 ho4 hb hg_ hnew_; clear hg_ hnew_; (rw [← Ny344.out] at ho4); have HO346 := zA (Kd.R_lower ho4 (below_size zB)); replace HB := zA (below_step zB hb); clear hb ho4))
 go_loopg [5, 12] k (fun kq v5 v12 w' => ∃ (x5_1 : List ByteArray) (x12_1 : Int), v12 = .int .i64 x12_1 ∧ Aside0 (impl_words.l0 kq a0 x5_1 a1 x12_1 = some r) ∧ Aside0 (kq ≤ k) ∧ Aside0 (Kd.R Kd.string 9 w' w.heap.size (fun _ => True) v5 x5_1) ∧ Aside0 (Below w.heap.size w w'))
 case atStart => exact ⟨(y344), (0), (by rfl), H', ⟨Nat.le_refl _⟩, ⟨zR⟩, ⟨zB⟩⟩
 case round =>
  clear H'
  obtain ⟨x5_1, x12_1, rfl, HA, HK1, HO_5, HB⟩ := hrel
  cases gk with
  | zero => exact absurd HA.out (by simp [impl_words.l0])
  | succ k1 =>
   have H := HA.out
   clear HA
   simp only [impl_words.l0] at H
   by_cases c5 : x12_1 < a1
   ·rw [if_pos c5] at H
    have c5b0 : decide (x12_1 < a1) = true := decide_eq_true c5
    clear c5
    have H' := zA H
    clear H
    obtain ⟨Ao6, co6, eo6⟩ := Kd.R_slice HO_5.out
    subst eo6
    go_wp2
    go_loopg [6, 16] k1 (fun kq v6 v16 w' => ∃ (x6_2 : List ByteArray) (x16_2 : Int), v16 = .int .i64 x16_2 ∧ Aside0 (impl_words.l1 kq a0 x6_2 a1 x12_1 x5_1 (x5_1.length : Int) x16_2 = some r) ∧ Aside0 (kq ≤ k1) ∧ Aside0 (Kd.R Kd.string 9 w' w.heap.size (fun k_ => some k_ ≠ ((.slice Ao6 x5_1.length co6) : Value).ownBlock) v6 x6_2) ∧ Aside0 (Kd.R Kd.string 9 w' w.heap.size (fun k_ => some k_ ≠ (v6 : Value).ownBlock) (.slice Ao6 x5_1.length co6) x5_1) ∧ Aside0 (Below w.heap.size w w'))
    case atStart => exact ⟨(([] : List ByteArray)), (0), (by rfl), H', ⟨Nat.le_refl _⟩, ⟨by exact Kd.R_nil _ _ _ _ _⟩, ⟨by exact Kd.R_mono HO_5.out (fun _ hk => (by simp [Value.ownBlock]))⟩, ⟨zB⟩⟩
    case round =>
     clear H'
     obtain ⟨x6_2, x16_2, rfl, HA, HK2, HO_6, HO_14, HB⟩ := hrel
     cases gk with
     | zero => exact absurd HA.out (by simp [impl_words.l1])
     | succ k2 =>
      have H := HA.out
      clear HA
      simp only [impl_words.l1] at H
      by_cases c7 : x16_2 < (x5_1.length : Int)
      ·rw [if_pos c7] at H
       have c7b0 : decide (x16_2 < (x5_1.length : Int)) = true := decide_eq_true c7
       clear c7
       by_cases c8 : 0 ≤ x16_2
       ·rw [if_pos c8] at H
        have c8b0 : decide (0 ≤ x16_2) = true := decide_eq_true c8
        clear c8
        by_cases c9 : x16_2 < (x5_1.length : Int)
        ·rw [if_pos c9] at H
         have c9b0 : decide (x16_2 < (x5_1.length : Int)) = true := decide_eq_true c9
         clear c9
         have H' := zA H
         clear H
         have p347 : 0 ≤ (x16_2 : Int) := zD
         have q347 : x16_2 < (x5_1.length : Int) := zD
         obtain ⟨ad347, e347, hx347_0⟩ := Kd.at_string (Kd.R_reads' HO_14.out).2.2 x16_2 p347 q347
         cases e347
         replace p347 := eq_true p347
         replace q347 := eq_true q347
         go_wp2
         go_loopg [6, 21] k2 (fun kq v6 v21 w' => ∃ (x6_3 : List ByteArray) (x21_3 : Int), v21 = .int .i64 x21_3 ∧ Aside0 (impl_words.l2 kq a0 x6_3 (rdOf ByteArray.empty x5_1 x16_2) a1 x12_1 x5_1 (x5_1.length : Int) x16_2 a0 x21_3 = some r) ∧ Aside0 (kq ≤ k2) ∧ Aside0 (Kd.R Kd.string 9 w' w.heap.size (fun k_ => some k_ ≠ ((.slice (some ad347) x5_1.length co6) : Value).ownBlock) v6 x6_3) ∧ Aside0 (Kd.R Kd.string 9 w' w.heap.size (fun k_ => some k_ ≠ (v6 : Value).ownBlock) (.slice (some ad347) x5_1.length co6) x5_1) ∧ Aside0 (Below w.heap.size w w'))
         case atStart => exact ⟨(x6_2), (0), (by rfl), H', ⟨Nat.le_refl _⟩, ⟨zR⟩, ⟨zR⟩, ⟨zB⟩⟩
         case round =>
          clear H'
          obtain ⟨x6_3, x21_3, rfl, HA, HK3, HO_6, HO_14, HB⟩ := hrel
          cases gk with
          | zero => exact absurd HA.out (by simp [impl_words.l2])
          | succ k3 =>
           have H := HA.out
           clear HA
           simp only [impl_words.l2] at H
           by_cases c10 : x21_3 < a0
           ·rw [if_pos c10] at H
            have c10b0 : decide (x21_3 < a0) = true := decide_eq_true c10
            clear c10
            replace H := Option.bind_eq_some_iff.mp H
            obtain ⟨t348, A110, H⟩ := H
            replace H : (if (rdOf ByteArray.empty x5_1 x16_2).size + t348.size ≤ 9223372036854775807 then (if x6_3.length < 8796093022208 then (impl_words.l2 k3 a0 (x6_3 ++ [(rdOf ByteArray.empty x5_1 x16_2) ++ t348]) (rdOf ByteArray.empty x5_1 x16_2) a1 x12_1 x5_1 (x5_1.length : Int) x16_2 a0 (wrap64 (x21_3 + 1))) else (none)) else (none)) = some r := H
            have A11 := zA A110
            clear A110
            by_cases c12 : (rdOf ByteArray.empty x5_1 x16_2).size + t348.size ≤ 9223372036854775807
            ·rw [if_pos c12] at H
             have c12b0 := eq_true c12
             have c12b1 : decide ((rdOf ByteArray.empty x5_1 x16_2).size + t348.size ≤ 9223372036854775807) = true := decide_eq_true c12
             try have c12b2 : (9223372036854775807 < (rdOf ByteArray.empty x5_1 x16_2).size + t348.size) = False := eq_false (Nat.not_lt.2 c12)
             by_cases c13 : x6_3.length < 8796093022208
             ·rw [if_pos c13] at H
              have LMc13 := zA c13
              clear c13
              obtain ⟨y349, hy349⟩ : ∃ y_ : List ByteArray, y_ = (x6_3 ++ [(rdOf ByteArray.empty x5_1 x16_2) ++ t348]) := ⟨_, rfl⟩
              replace H : (impl_words.l2 k3 a0 y349 (rdOf ByteArray.empty x5_1 x16_2) a1 x12_1 x5_1 (x5_1.length : Int) x16_2 a0 (wrap64 (x21_3 + 1))) = some r := by (rw [hy349]; with_reducible exact H)
              have Ny349 := zA hy349
              clear hy349
              have H' := zA H
              clear H
              go_wp2_with (first | ((with_reducible refine gate_callee (f := 95) rfl ?_); refine goesL_ (some 27) rfl rfl Try.func95 (by kernel_rfl) rfl #[.int .i64 x21_3] rfl zM ?_; (with_reducible refine (impl_letter.calls x21_3 t348 _ A11.out).mono ?_); rintro e w14 ⟨rfl, hb⟩; refine ⟨_, rfl, ?_⟩; replace HO_6 := zA (Kd.R_below HO_6.out hb); replace HO_14 := zA (Kd.R_below HO_14.out hb); replace HB := zA (below_step zB hb); (try clear hb); (try clear hb2); (try clear hk); (try clear hi)) | ((with_reducible refine gate_builtin (b := .append) (xs := #[.tmp 24, .tmp 29]) rfl ?_); at_builtin; refine Kd.R_append Kd.string (w0 := w) w.heap.size rfl (.tmp 24) (.tmp 29) 72 9 (.string ⟨#[]⟩) 16 rfl Try.underlying72 info9 rfl (by decide) (by omega) u6 x6_3 ((rdOf ByteArray.empty x5_1 x16_2) ++ t348) [.string ((rdOf ByteArray.empty x5_1 x16_2) ++ t348)] (fun k_ => some k_ ≠ (.slice (some ad347) x5_1.length co6 : Value).ownBlock) (fun _ => False) rfl rfl ?aP (fun _ hk => hk.elim) ?aF ?aO ?aB ?aS ?aL ?_; (case aP => exact rfl); (case aB => exact zB); (case aF => exact (fun k_ hk => Kd.fresh' (Kd.R_lt HO_14.out) k_ hk)); (case aO => exact zR); (case aS => exact (below_size zB)); (case aL => have := LMc13.out; omega); intro v350 w15 ho hb hg hat; rw [← Ny349.out] at ho; have HO351 := zA (ho); replace HO_14 := zA (Kd.R_after (ok := (fun _ => True)) (by exact Kd.R_mono HO_14.out (fun _ hk => ⟨trivial, hk⟩)) hg hat); replace HB := zA (hb); clear HO_6; clear ho hb hg hat))
              go_roundg k3
              case measure => have := HK1.out; have := HK2.out; have := HK3.out; omega
              case rel => exact ⟨(y349), (wrap64 (x21_3 + 1)), (by rfl), H', ⟨by have := HK1.out; have := HK2.out; have := HK3.out; omega⟩, ⟨zR⟩, ⟨by exact Kd.R_mono HO_14.out (fun _ hk => hk.2)⟩, ⟨zB⟩⟩
             ·rw [if_neg c13] at H
              exact absurd H (by simp)
            ·rw [if_neg c12] at H
             exact absurd H (by simp)
           ·rw [if_neg c10] at H
            have c10b0 : decide (x21_3 < a0) = false := decide_eq_false c10
            clear c10
            have H' := zA H
            clear H
            go_wp2
            go_roundg k3
            case measure => have := HK1.out; have := HK2.out; have := HK3.out; omega
            case rel => exact ⟨(x6_3), (wrap64 (x16_2 + 1)), (by rfl), H', ⟨by have := HK1.out; have := HK2.out; have := HK3.out; omega⟩, ⟨zR⟩, ⟨zR⟩, ⟨zB⟩⟩
        ·rw [if_neg c9] at H
         exact absurd H (by simp)
       ·rw [if_neg c8] at H
        exact absurd H (by simp)
      ·rw [if_neg c7] at H
       have c7b0 : decide (x16_2 < (x5_1.length : Int)) = false := decide_eq_false c7
       clear c7
       have H' := zA H
       clear H
       go_wp2
       go_roundg k2
       case measure => have := HK1.out; have := HK2.out; omega
       case rel => exact ⟨(x6_2), (wrap64 (x12_1 + 1)), (by rfl), H', ⟨by have := HK1.out; have := HK2.out; omega⟩, ⟨by exact Kd.R_mono HO_6.out (fun _ hk => trivial)⟩, ⟨zB⟩⟩
   ·rw [if_neg c5] at H
    have c5b0 : decide (x12_1 < a1) = false := decide_eq_false c5
    clear c5
    obtain rfl := Option.some.inj H
    go_wp2
    go_ret
    exact ⟨_, by rfl, zR, zB⟩


/-! ### impl_isRest: function 97 -/
def impl_isRest.f (l0 : List Int) : Option (Bool) := (impl_allUpTo.f l0 0).bind fun t352 => (some t352)
theorem impl_isRest.calls (A0 : Option Addr) (c0 : Nat) (l0 : List Int) (r : Bool) (w : World) (hr0 : Kd.C (Kd.int .i64) w A0 l0.length l0) (hc0 : l0.length ≤ c0) (h : impl_isRest.f l0 = some r) :
 Calls Try.prog 97 #[.slice A0 l0.length c0] w fun e w' => e = .returned (.bool r) ∧ Below w.heap.size w w' := by
 have HR0 := zA hr0
 have HC0 := zA hc0
 clear hr0 hc0
 have HB := zA (Below.refl w.heap.size w)
 have H : ((impl_allUpTo.f l0 0).bind fun t352 => (some t352)) = some r := h
 clear h
 replace H := Option.bind_eq_some_iff.mp H
 obtain ⟨t352, A20, H⟩ := H
 replace H : (some t352) = some r := H
 have A2 := zA A20
 clear A20
 obtain rfl := Option.some.inj H
 go_enter Try.func97, Try.ntmps97
 go_wp2_with (first | ((with_reducible refine gate_callee (f := 90) rfl ?_); refine goesL_ (some 4) rfl rfl Try.func90 (by kernel_rfl) rfl #[.slice A0 l0.length c0, .int .i64 0] rfl zM ?_; (with_reducible refine (impl_allUpTo.calls _ _ l0 0 t352 _ ?side1 ?side2 A2.out).mono ?_); (case side1 => repeat (exact HR0.out)); (case side2 => exact HC0.out); rintro e w3 ⟨rfl, hb⟩; refine ⟨_, rfl, ?_⟩; replace HB := zA (below_step zB hb); (try clear hb); (try clear hb2); (try clear hk); (try clear hi)))
 go_ret
 exact ⟨by rfl, zB⟩

/-! ### impl_isNothing: function 60, by hand -/
set_option maxHeartbeats 2000000 in
theorem impl_isNothing_ask (A : Option Addr) (c : Nat) (x : List Int) (W : World) (hr : (Kd.int .i64).C W A x.length x) (hx : x.length ≤ c) :
 Calls Try.prog 96 #[.slice A x.length c] W fun e w' => e = .returned (.bool (!(!(x.any fun n => !(Hand.upToB n 0))))) ∧ Below W.heap.size W w' := by
 have HR := zA hr
 have HX := zA hx
 clear hr hx
 generalize hQ : (!(x.any fun n => !(Hand.upToB n 0))) = Q
 have HA := zA (show impl_isRest.f x = some Q from by rw [← hQ]; rfl)
 clear hQ
 go_enter Try.func96, Try.ntmps96
 go_wp2_with (go_at_call 97; refine (impl_isRest.calls A c x Q _ HR.out HX.out HA.out).mono ?_; rintro e w' ⟨rfl, hb⟩)
 go_ret
 exact ⟨rfl, hb⟩
/-- Has a matrix zeros alone? -/
def impl_isNothing.f (l0 : List (List Int)) : Option Bool := some (!(l0.any fun x => !(!(x.any fun n => !(Hand.upToB n 0)))))
set_option maxHeartbeats 2000000 in
theorem impl_isNothing.calls (A0 : Option Addr) (c0 : Nat) (l0 : List (List Int)) (r : Bool) (w : World) (hr0 : Kd.C (Kd.slice 2 (Kd.int .i64)) w A0 l0.length l0) (hc0 : l0.length ≤ c0) (h : impl_isNothing.f l0 = some r) :
 Calls Try.prog 60 #[.slice A0 l0.length c0] w fun e w' => e = .returned (.bool r) ∧ Below w.heap.size w w' := by
 have HR := zA hr0
 obtain rfl := Option.some.inj h
 clear hr0 hc0 h
 have eg := enters_of Try.func96 (by kernel_rfl) rfl
 generalize hQ : (l0.any fun x => !(!(x.any fun n => !(Hand.upToB n 0)))) = Q
 have HQ := zA hQ
 clear hQ
 go_enter Try.func60, Try.ntmps60
 go_wp2_with (go_at_call 88; refine (Hand.containsFunc_rows 96 #[] eg (fun x => !(!(x.any fun n => !(Hand.upToB n 0)))) A0 c0 l0 _ (fun A c x W hb hC hx => impl_isNothing_ask A c x W hC hx) HR.out).mono ?_; rw [HQ.out]; rintro e w' ⟨rfl, hb⟩)
 go_ret
 exact ⟨rfl, hb⟩


/-! ### impl_VanishAt: function 14 -/
def impl_VanishAt.l0 : Nat → List (List (List Int)) → Bool → List ByteArray → Int → Int → Option (Bool × Int)
 | 0, _, _, _, _, _ => none
 | k + 1, x1, x8, x23, x24, x25 => if x25 < x24 then (if 0 ≤ x25 then (if x25 < (x23.length : Int) then ((impl_product.f k x1 (rdOf ByteArray.empty x23 x25)).bind fun bt367 => (if bt367.2 = true then (if x8 = true then ((impl_isNothing.f bt367.1).bind fun t371 => (impl_VanishAt.l0 k x1 t371 x23 x24 (wrap64 (x25 + 1)))) else (impl_VanishAt.l0 k x1 false x23 x24 (wrap64 (x25 + 1)))) else (some (false, 3)))) else (none)) else (none)) else (some (x8, 0))
def impl_VanishAt.f (k : Nat) (a0 : Int) (l1 : List (List (List Int))) (a2 : Int) : Option (Bool × Int) := (impl_AreTables.f a0 l1).bind fun t361 => (if t361 = true then ((impl_within.f a2 0 4).bind fun t362 => (if t362 = true then ((impl_words.f k a0 (wrap64 (a2 + 1))).bind fun t363 => (impl_VanishAt.l0 k l1 true t363 (t363.length : Int) 0)) else (some (false, 2)))) else (some (false, 1)))
theorem impl_VanishAt.mono_l : ∀ k, (∀ y0 y1 y2 y3 y4, LeO (impl_VanishAt.l0 k y0 y1 y2 y3 y4) (impl_VanishAt.l0 (k + 1) y0 y1 y2 y3 y4))
 | 0 => fun _ _ _ _ _ r h => by simp [impl_VanishAt.l0] at h
 | k + 1 => by
  have ih0 := impl_VanishAt.mono_l k
  ·intro y0 y1 y2 y3 y4
   unfold impl_VanishAt.l0
   repeat' first
   | (with_reducible exact ih0 _ _ _ _ _)
   | (with_reducible exact impl_product.mono _ _ _)
   | (with_reducible exact impl_words.mono _ _ _)
   | (with_reducible exact LeO.refl _)
   | (with_reducible exact LeO.none _)
   | (with_reducible refine LeO.ite ?_ ?_)
   | (with_reducible refine LeO.bind ?_ (fun _ => ?_))
theorem impl_VanishAt.mono : ∀ a0 a1 a2 k, LeO (impl_VanishAt.f k a0 a1 a2) (impl_VanishAt.f (k + 1) a0 a1 a2) := by
 intro a0 a1 a2 k
 have ih0 := impl_VanishAt.mono_l k
 unfold impl_VanishAt.f
 repeat' first
  | (with_reducible exact ih0 _ _ _ _ _)
  | (with_reducible exact impl_product.mono _ _ _)
  | (with_reducible exact impl_words.mono _ _ _)
  | (with_reducible exact LeO.refl _)
  | (with_reducible exact LeO.none _)
  | (with_reducible refine LeO.ite ?_ ?_)
  | (with_reducible refine LeO.bind ?_ (fun _ => ?_))
theorem impl_VanishAt.calls (k : Nat) (a0 : Int) (A1 : Option Addr) (c1 : Nat) (l1 : List (List (List Int))) (a2 : Int) (r1 : Bool) (r2 : Int) (w : World) (hr1 : Kd.C (Kd.slice 45 (Kd.slice 2 (Kd.int .i64))) w A1 l1.length l1) (hc1 : l1.length ≤ c1) (h : impl_VanishAt.f k a0 l1 a2 = some (r1, r2)) :
 Calls Try.prog 14 #[.int .i64 a0, .slice A1 l1.length c1, .int .i64 a2] w fun e w' => e = .returned (.tuple #[.bool r1, .int .i64 r2]) ∧ Below w.heap.size w w' := by
 have HR1 := zA hr1
 have HC1 := zA hc1
 clear hr1 hc1
 have HB := zA (Below.refl w.heap.size w)
 have H : ((impl_AreTables.f a0 l1).bind fun t361 => (if t361 = true then ((impl_within.f a2 0 4).bind fun t362 => (if t362 = true then ((impl_words.f k a0 (wrap64 (a2 + 1))).bind fun t363 => (impl_VanishAt.l0 k l1 true t363 (t363.length : Int) 0)) else (some (false, 2)))) else (some (false, 1)))) = some (r1, r2) := h
 clear h
 replace H := Option.bind_eq_some_iff.mp H
 obtain ⟨t361, A40, H⟩ := H
 replace H : (if t361 = true then ((impl_within.f a2 0 4).bind fun t362 => (if t362 = true then ((impl_words.f k a0 (wrap64 (a2 + 1))).bind fun t363 => (impl_VanishAt.l0 k l1 true t363 (t363.length : Int) 0)) else (some (false, 2)))) else (some (false, 1))) = some (r1, r2) := H
 have A4 := zA A40
 clear A40
 by_cases c5 : t361 = true
 ·subst c5
  have H1 : ((impl_within.f a2 0 4).bind fun t362 => (if t362 = true then ((impl_words.f k a0 (wrap64 (a2 + 1))).bind fun t363 => (impl_VanishAt.l0 k l1 true t363 (t363.length : Int) 0)) else (some (false, 2)))) = some (r1, r2) := by rw [if_pos rfl] at H; exact H
  clear H
  have H := H1
  clear H1
  replace H := Option.bind_eq_some_iff.mp H
  obtain ⟨t362, A60, H⟩ := H
  replace H : (if t362 = true then ((impl_words.f k a0 (wrap64 (a2 + 1))).bind fun t363 => (impl_VanishAt.l0 k l1 true t363 (t363.length : Int) 0)) else (some (false, 2))) = some (r1, r2) := H
  have A6 := zA A60
  clear A60
  by_cases c7 : t362 = true
  ·subst c7
   have H1 : ((impl_words.f k a0 (wrap64 (a2 + 1))).bind fun t363 => (impl_VanishAt.l0 k l1 true t363 (t363.length : Int) 0)) = some (r1, r2) := by rw [if_pos rfl] at H; exact H
   clear H
   have H := H1
   clear H1
   replace H := Option.bind_eq_some_iff.mp H
   obtain ⟨t363, A80, H⟩ := H
   replace H : (impl_VanishAt.l0 k l1 true t363 (t363.length : Int) 0) = some (r1, r2) := H
   have A8 := zA A80
   clear A80
   have H' := zA H
   clear H
   go_enter Try.func14, Try.ntmps14
   go_wp2_with (first | ((with_reducible refine gate_callee (f := 11) rfl ?_); refine goesL_ (some 15) rfl rfl Try.func11 (by kernel_rfl) rfl #[.int .i64 a0, .slice A1 l1.length c1] rfl zM ?_; (with_reducible refine (impl_AreTables.calls a0 _ _ l1 true _ ?side1 ?side2 A4.out).mono ?_); (case side1 => repeat (exact HR1.out)); (case side2 => exact HC1.out); rintro e w9 ⟨rfl, hb⟩; refine ⟨_, rfl, ?_⟩; replace HB := zA (below_step zB hb); (try clear hb); (try clear hb2); (try clear hk); (try clear hi)) | ((with_reducible refine gate_callee (f := 52) rfl ?_); refine goesL_ (some 18) rfl rfl Try.func52 (by kernel_rfl) rfl #[.int .i64 a2, .int .i64 0, .int .i64 4] rfl zM ?_; (with_reducible refine (impl_within.calls a2 0 4 true _ A6.out).mono ?_); rintro e w' ⟨rfl, ⟨nd, rfl⟩⟩; refine ⟨_, rfl, ?_⟩) | ((with_reducible refine gate_callee (f := 59) rfl ?_); refine goesL_ (some 23) rfl rfl Try.func59 (by kernel_rfl) rfl #[.int .i64 a0, .int .i64 (wrap64 (a2 + 1))] rfl zM ?_; (with_reducible refine (impl_words.calls k a0 (wrap64 (a2 + 1)) t363 _ A8.out).mono ?_); rintro e w10 ⟨v364, rfl, ho0, hb⟩; refine ⟨_, rfl, ?_⟩; have HO365 := zA (Kd.R_lower ho0 (below_size zB)); replace HB := zA (below_step zB hb); (try clear hb); (try clear hb2); (try clear hk); (try clear hi); (try clear ho0); obtain ⟨Ao11, co11, eo11⟩ := Kd.R_slice HO365.out; subst eo11))
   go_loopg [8, 25] k (fun kq v8 v25 w' => ∃ (x8_1 : Bool) (x25_1 : Int), v8 = .bool x8_1 ∧ v25 = .int .i64 x25_1 ∧ Aside0 (impl_VanishAt.l0 kq l1 x8_1 t363 (t363.length : Int) x25_1 = some (r1, r2)) ∧ Aside0 (kq ≤ k) ∧ Aside0 (Kd.R Kd.string 9 w' w.heap.size (fun _ => True) (.slice Ao11 t363.length co11) t363) ∧ Aside0 (Below w.heap.size w w'))
   case atStart => exact ⟨(true), (0), (by rfl), (by rfl), H', ⟨Nat.le_refl _⟩, ⟨zR⟩, ⟨zB⟩⟩
   case round =>
    clear H'
    obtain ⟨x8_1, x25_1, rfl, rfl, HA, HK1, HO_23, HB⟩ := hrel
    cases gk with
    | zero => exact absurd HA.out (by simp [impl_VanishAt.l0])
    | succ k1 =>
     have H := HA.out
     clear HA
     simp only [impl_VanishAt.l0] at H
     by_cases c12 : x25_1 < (t363.length : Int)
     ·rw [if_pos c12] at H
      have c12b0 : decide (x25_1 < (t363.length : Int)) = true := decide_eq_true c12
      clear c12
      by_cases c13 : 0 ≤ x25_1
      ·rw [if_pos c13] at H
       have c13b0 : decide (0 ≤ x25_1) = true := decide_eq_true c13
       clear c13
       by_cases c14 : x25_1 < (t363.length : Int)
       ·rw [if_pos c14] at H
        have c14b0 : decide (x25_1 < (t363.length : Int)) = true := decide_eq_true c14
        clear c14
        replace H := Option.bind_eq_some_iff.mp H
        obtain ⟨⟨t367, t370⟩, A150, H⟩ := H
        replace H : (if t370 = true then (if x8_1 = true then ((impl_isNothing.f t367).bind fun t371 => (impl_VanishAt.l0 k1 l1 t371 t363 (t363.length : Int) (wrap64 (x25_1 + 1)))) else (impl_VanishAt.l0 k1 l1 false t363 (t363.length : Int) (wrap64 (x25_1 + 1)))) else (some (false, 3))) = some (r1, r2) := H
        have A15 := zA A150
        clear A150
        by_cases c16 : t370 = true
        ·subst c16
         have H1 : (if x8_1 = true then ((impl_isNothing.f t367).bind fun t371 => (impl_VanishAt.l0 k1 l1 t371 t363 (t363.length : Int) (wrap64 (x25_1 + 1)))) else (impl_VanishAt.l0 k1 l1 false t363 (t363.length : Int) (wrap64 (x25_1 + 1)))) = some (r1, r2) := by rw [if_pos rfl] at H; exact H
         clear H
         have H := H1
         clear H1
         by_cases c17 : x8_1 = true
         ·subst c17
          have H1 : ((impl_isNothing.f t367).bind fun t371 => (impl_VanishAt.l0 k1 l1 t371 t363 (t363.length : Int) (wrap64 (x25_1 + 1)))) = some (r1, r2) := by rw [if_pos rfl] at H; exact H
          clear H
          have H := H1
          clear H1
          replace H := Option.bind_eq_some_iff.mp H
          obtain ⟨t371, A180, H⟩ := H
          replace H : (impl_VanishAt.l0 k1 l1 t371 t363 (t363.length : Int) (wrap64 (x25_1 + 1))) = some (r1, r2) := H
          have A18 := zA A180
          clear A180
          have H' := zA H
          clear H
          have p366 : 0 ≤ (x25_1 : Int) := zD
          have q366 : x25_1 < (t363.length : Int) := zD
          obtain ⟨ad366, e366, hx366_0⟩ := Kd.at_string (Kd.R_reads' HO_23.out).2.2 x25_1 p366 q366
          cases e366
          replace p366 := eq_true p366
          replace q366 := eq_true q366
          go_wp2_with (first | ((with_reducible refine gate_callee (f := 47) rfl ?_); refine goesL_ (some 32) rfl rfl Try.func47 (by kernel_rfl) rfl #[.slice A1 l1.length c1, .string (rdOf ByteArray.empty t363 x25_1)] rfl zM ?_; (with_reducible refine (impl_product.calls k1 _ _ l1 (rdOf ByteArray.empty t363 x25_1) t367 true _ ?side1 ?side2 A15.out).mono ?_); (case side1 => repeat (exact (Kd.C_below HR1.out HB.out))); (case side2 => exact HC1.out); rintro e w19 ⟨v368, rfl, ho0, hb⟩; refine ⟨_, rfl, ?_⟩; have HO369 := zA (Kd.N_lower (Kd.N_mono (ok' := fun k_ => some k_ ≠ (.slice (some ad366) t363.length co11 : Value).ownBlock) ho0 (fun k_ hk_ => (Kd.fresh' (Kd.R_lt HO_23.out) k_ hk_))) (below_size zB)); replace HO_23 := zA (Kd.R_below HO_23.out hb); replace HB := zA (below_step zB hb); (try clear hb); (try clear hb2); (try clear hk); (try clear hi); (try clear ho0); obtain ⟨Ao20, co20, eo20⟩ := Kd.N_slice HO369.out; subst eo20) | (go_at_call 60; (with_reducible refine (impl_isNothing.calls _ _ t367 t371 _ ?side1 ?side2 A18.out).mono ?_); (case side1 => repeat (exact (Kd.N_reads' HO369.out).2.2)); (case side2 => exact (Kd.N_reads' HO369.out).2.1); rintro e w21 ⟨rfl, hb⟩; replace HO_23 := zA (Kd.R_below HO_23.out hb); replace HO369 := zA (Kd.N_below (by exact HO369.out) hb); replace HB := zA (below_step zB hb); (try clear hb); (try clear hb2); (try clear hk); (try clear hi)))
          go_roundg k1
          case measure => have := HK1.out; omega
          case rel => exact ⟨(t371), (wrap64 (x25_1 + 1)), (by rfl), (by rfl), H', ⟨by have := HK1.out; omega⟩, ⟨zR⟩, ⟨zB⟩⟩
         ·replace c17 := Bool.eq_false_iff.mpr c17
          subst c17
          have H1 : (impl_VanishAt.l0 k1 l1 false t363 (t363.length : Int) (wrap64 (x25_1 + 1))) = some (r1, r2) := by rw [if_neg (show ¬ (false = true) by decide)] at H; exact H
          clear H
          have H := H1
          clear H1
          have H' := zA H
          clear H
          have p366 : 0 ≤ (x25_1 : Int) := zD
          have q366 : x25_1 < (t363.length : Int) := zD
          obtain ⟨ad366, e366, hx366_0⟩ := Kd.at_string (Kd.R_reads' HO_23.out).2.2 x25_1 p366 q366
          cases e366
          replace p366 := eq_true p366
          replace q366 := eq_true q366
          go_wp2_with (first | ((with_reducible refine gate_callee (f := 47) rfl ?_); refine goesL_ (some 32) rfl rfl Try.func47 (by kernel_rfl) rfl #[.slice A1 l1.length c1, .string (rdOf ByteArray.empty t363 x25_1)] rfl zM ?_; (with_reducible refine (impl_product.calls k1 _ _ l1 (rdOf ByteArray.empty t363 x25_1) t367 true _ ?side1 ?side2 A15.out).mono ?_); (case side1 => repeat (exact (Kd.C_below HR1.out HB.out))); (case side2 => exact HC1.out); rintro e w22 ⟨v368, rfl, ho0, hb⟩; refine ⟨_, rfl, ?_⟩; have HO369 := zA (Kd.N_lower (Kd.N_mono (ok' := fun k_ => some k_ ≠ (.slice (some ad366) t363.length co11 : Value).ownBlock) ho0 (fun k_ hk_ => (Kd.fresh' (Kd.R_lt HO_23.out) k_ hk_))) (below_size zB)); replace HO_23 := zA (Kd.R_below HO_23.out hb); replace HB := zA (below_step zB hb); (try clear hb); (try clear hb2); (try clear hk); (try clear hi); (try clear ho0)))
          go_roundg k1
          case measure => have := HK1.out; omega
          case rel => exact ⟨(false), (wrap64 (x25_1 + 1)), (by rfl), (by rfl), H', ⟨by have := HK1.out; omega⟩, ⟨zR⟩, ⟨zB⟩⟩
        ·replace c16 := Bool.eq_false_iff.mpr c16
         subst c16
         have H1 : (some (false, 3)) = some (r1, r2) := by rw [if_neg (show ¬ (false = true) by decide)] at H; exact H
         clear H
         have H := H1
         clear H1
         simp only [Option.some.injEq, Prod.mk.injEq] at H
         obtain ⟨rfl, rfl⟩ := H
         have p366 : 0 ≤ (x25_1 : Int) := zD
         have q366 : x25_1 < (t363.length : Int) := zD
         obtain ⟨ad366, e366, hx366_0⟩ := Kd.at_string (Kd.R_reads' HO_23.out).2.2 x25_1 p366 q366
         cases e366
         replace p366 := eq_true p366
         replace q366 := eq_true q366
         go_wp2_with (first | ((with_reducible refine gate_callee (f := 47) rfl ?_); refine goesL_ (some 32) rfl rfl Try.func47 (by kernel_rfl) rfl #[.slice A1 l1.length c1, .string (rdOf ByteArray.empty t363 x25_1)] rfl zM ?_; (with_reducible refine (impl_product.calls k1 _ _ l1 (rdOf ByteArray.empty t363 x25_1) t367 false _ ?side1 ?side2 A15.out).mono ?_); (case side1 => repeat (exact (Kd.C_below HR1.out HB.out))); (case side2 => exact HC1.out); rintro e w23 ⟨v368, rfl, ho0, hb⟩; refine ⟨_, rfl, ?_⟩; have HO369 := zA (Kd.N_lower (Kd.N_mono (ok' := fun k_ => some k_ ≠ (.slice (some ad366) t363.length co11 : Value).ownBlock) ho0 (fun k_ hk_ => (Kd.fresh' (Kd.R_lt HO_23.out) k_ hk_))) (below_size zB)); replace HO_23 := zA (Kd.R_below HO_23.out hb); replace HB := zA (below_step zB hb); (try clear hb); (try clear hb2); (try clear hk); (try clear hi); (try clear ho0)))
         go_ret2
         exact ⟨by rfl, zB⟩
       ·rw [if_neg c14] at H
        exact absurd H (by simp)
      ·rw [if_neg c13] at H
       exact absurd H (by simp)
     ·rw [if_neg c12] at H
      have c12b0 : decide (x25_1 < (t363.length : Int)) = false := decide_eq_false c12
      clear c12
      simp only [Option.some.injEq, Prod.mk.injEq] at H
      obtain ⟨rfl, rfl⟩ := H
      go_wp2
      go_ret2
      exact ⟨by rfl, zB⟩
  ·replace c7 := Bool.eq_false_iff.mpr c7
   subst c7
   have H1 : (some (false, 2)) = some (r1, r2) := by rw [if_neg (show ¬ (false = true) by decide)] at H; exact H
   clear H
   have H := H1
   clear H1
   simp only [Option.some.injEq, Prod.mk.injEq] at H
   obtain ⟨rfl, rfl⟩ := H
   go_enter Try.func14, Try.ntmps14
   go_wp2_with (first | ((with_reducible refine gate_callee (f := 11) rfl ?_); refine goesL_ (some 15) rfl rfl Try.func11 (by kernel_rfl) rfl #[.int .i64 a0, .slice A1 l1.length c1] rfl zM ?_; (with_reducible refine (impl_AreTables.calls a0 _ _ l1 true _ ?side1 ?side2 A4.out).mono ?_); (case side1 => repeat (exact HR1.out)); (case side2 => exact HC1.out); rintro e w24 ⟨rfl, hb⟩; refine ⟨_, rfl, ?_⟩; replace HB := zA (below_step zB hb); (try clear hb); (try clear hb2); (try clear hk); (try clear hi)) | ((with_reducible refine gate_callee (f := 52) rfl ?_); refine goesL_ (some 18) rfl rfl Try.func52 (by kernel_rfl) rfl #[.int .i64 a2, .int .i64 0, .int .i64 4] rfl zM ?_; (with_reducible refine (impl_within.calls a2 0 4 false _ A6.out).mono ?_); rintro e w' ⟨rfl, ⟨nd, rfl⟩⟩; refine ⟨_, rfl, ?_⟩))
   go_ret2
   exact ⟨by rfl, zB⟩
 ·replace c5 := Bool.eq_false_iff.mpr c5
  subst c5
  have H1 : (some (false, 1)) = some (r1, r2) := by rw [if_neg (show ¬ (false = true) by decide)] at H; exact H
  clear H
  have H := H1
  clear H1
  simp only [Option.some.injEq, Prod.mk.injEq] at H
  obtain ⟨rfl, rfl⟩ := H
  go_enter Try.func14, Try.ntmps14
  go_wp2_with (first | ((with_reducible refine gate_callee (f := 11) rfl ?_); refine goesL_ (some 15) rfl rfl Try.func11 (by kernel_rfl) rfl #[.int .i64 a0, .slice A1 l1.length c1] rfl zM ?_; (with_reducible refine (impl_AreTables.calls a0 _ _ l1 false _ ?side1 ?side2 A4.out).mono ?_); (case side1 => repeat (exact HR1.out)); (case side2 => exact HC1.out); rintro e w25 ⟨rfl, hb⟩; refine ⟨_, rfl, ?_⟩; replace HB := zA (below_step zB hb); (try clear hb); (try clear hb2); (try clear hk); (try clear hi)))
  go_ret2
  exact ⟨by rfl, zB⟩

end Go.Proofs.Ytkbneilobaehkaa.P
