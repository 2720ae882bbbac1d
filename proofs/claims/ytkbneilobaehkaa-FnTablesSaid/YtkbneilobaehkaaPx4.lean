/- What a call of each Go function named below comes to is what the plain Lean function beside it says. Made by a program of this session out of the print of the translation; Lean checks it. -/
import Derived.Test.YtkbneilobaehkaaPx0
import Derived.Test.YtkbneilobaehkaaPx1
import Derived.Test.YtkbneilobaehkaaPx2
import Derived.Test.YtkbneilobaehkaaPx3
import Derived.Test.YtkbneilobaehkaaHand
import Derived.Test.YtkbneilobaehkaaHandRows
import Derived.Test.YtkbneilobaehkaaHandRows3
namespace Go.Proofs.Ytkbneilobaehkaa.P
open Go.RowKit Go.Proofs.YtkbneilobaehkaaW.PrintWords Go.Proofs.YtkbneilobaehkaaW.PrintLast Go.Proofs.YtkbneilobaehkaaW.PrintMore
attribute [local go_sem] max2_int min2_int max_two min_two max_three min_three max_four min_four   -- for this text's walks alone
set_option linter.unusedVariables false
set_option linter.unusedSimpArgs false
set_option maxHeartbeats 8000000
set_option maxRecDepth 100000


/-! ### spec_l08With: function 45 -/
def spec_l08With.f (k : Nat) (l0 : List Int) : Option (Int × (List (List (List Int))) × ByteArray) := (spec_l01From.f k l0).bind fun bt151 => ((spec_l01Pick.f bt151.1 bt151.2.1 bt151.2.2 (([1, 2, 2, 3] : List Int))).bind fun bt158 => ((spec_l08Draw.f bt151.1 bt158.2.1 bt158.2.2 bt158.1).bind fun bt161 => ((spec_l01Next.f bt151.1 bt161.2.1 bt161.2.2 4).bind fun bt166 => ((spec_l01Words.f k bt158.1 bt166.1).bind fun t169 => ((spec_l01Next.f bt151.1 bt166.2.1 bt166.2.2 (t169.length : Int)).bind fun bt172 => (if 0 ≤ bt172.1 then (if bt172.1 < (t169.length : Int) then ((spec_l01Next.f bt151.1 bt172.2.1 bt172.2.2 30).bind fun bt176 => (if bt176.1 = 0 then (if (rdOf ByteArray.empty t169 bt172.1).size + 1 ≤ 9223372036854775807 then (some (bt158.1, bt161.1, (rdOf ByteArray.empty t169 bt172.1) ++ (⟨#[51]⟩ : ByteArray))) else (none)) else (if bt176.1 = 1 then (some (bt158.1, bt161.1, (⟨#[48, 48, 48, 48, 48, 48]⟩ : ByteArray))) else (if bt176.1 = 2 then ((spec_l01Pick.f bt151.1 bt176.2.1 bt176.2.2 (([0, 4, 1] : List Int))).bind fun bt182 => (some (bt182.1, bt161.1, rdOf ByteArray.empty t169 bt172.1))) else (some (bt158.1, bt161.1, rdOf ByteArray.empty t169 bt172.1)))))) else (none)) else (none)))))))
theorem spec_l08With.mono : ∀ a0 k, LeO (spec_l08With.f k a0) (spec_l08With.f (k + 1) a0) := by
 intro a0 k
 unfold spec_l08With.f
 repeat' first
  | (with_reducible exact spec_l01From.mono _ _)
  | (with_reducible exact spec_l01Words.mono _ _ _)
  | (with_reducible exact LeO.refl _)
  | (with_reducible exact LeO.none _)
  | (with_reducible refine LeO.ite ?_ ?_)
  | (with_reducible refine LeO.bind ?_ (fun _ => ?_))
theorem spec_l08With.calls (k : Nat) (A0 : Option Addr) (c0 : Nat) (l0 : List Int) (r1 : Int) (r2 : List (List (List Int))) (r3 : ByteArray) (w : World) (hr0 : Kd.C (Kd.int .u8) w A0 l0.length l0) (hc0 : l0.length ≤ c0) (h : spec_l08With.f k l0 = some (r1, r2, r3)) :
 Calls Try.prog 45 #[.slice A0 l0.length c0] w fun e w' => ∃ v1_ : Value, e = .returned (.tuple #[.int .i64 r1, v1_, .string r3]) ∧ Kd.N (Kd.slice 45 (Kd.slice 2 (Kd.int .i64))) 27 w' w.heap.size (fun k_ => (w.heap.size ≤ k_)) v1_ r2 ∧ Below w.heap.size w w' := by
 have HR0 := zA hr0
 have HC0 := zA hc0
 clear hr0 hc0
 have HB := zA (Below.refl w.heap.size w)
 have H : ((spec_l01From.f k l0).bind fun bt151 => ((spec_l01Pick.f bt151.1 bt151.2.1 bt151.2.2 (([1, 2, 2, 3] : List Int))).bind fun bt158 => ((spec_l08Draw.f bt151.1 bt158.2.1 bt158.2.2 bt158.1).bind fun bt161 => ((spec_l01Next.f bt151.1 bt161.2.1 bt161.2.2 4).bind fun bt166 => ((spec_l01Words.f k bt158.1 bt166.1).bind fun t169 => ((spec_l01Next.f bt151.1 bt166.2.1 bt166.2.2 (t169.length : Int)).bind fun bt172 => (if 0 ≤ bt172.1 then (if bt172.1 < (t169.length : Int) then ((spec_l01Next.f bt151.1 bt172.2.1 bt172.2.2 30).bind fun bt176 => (if bt176.1 = 0 then (if (rdOf ByteArray.empty t169 bt172.1).size + 1 ≤ 9223372036854775807 then (some (bt158.1, bt161.1, (rdOf ByteArray.empty t169 bt172.1) ++ (⟨#[51]⟩ : ByteArray))) else (none)) else (if bt176.1 = 1 then (some (bt158.1, bt161.1, (⟨#[48, 48, 48, 48, 48, 48]⟩ : ByteArray))) else (if bt176.1 = 2 then ((spec_l01Pick.f bt151.1 bt176.2.1 bt176.2.2 (([0, 4, 1] : List Int))).bind fun bt182 => (some (bt182.1, bt161.1, rdOf ByteArray.empty t169 bt172.1))) else (some (bt158.1, bt161.1, rdOf ByteArray.empty t169 bt172.1)))))) else (none)) else (none)))))))) = some (r1, r2, r3) := h
 clear h
 replace H := Option.bind_eq_some_iff.mp H
 obtain ⟨⟨t151, t152, t153⟩, A20, H⟩ := H
 replace H : ((spec_l01Pick.f t151 t152 t153 (([1, 2, 2, 3] : List Int))).bind fun bt158 => ((spec_l08Draw.f t151 bt158.2.1 bt158.2.2 bt158.1).bind fun bt161 => ((spec_l01Next.f t151 bt161.2.1 bt161.2.2 4).bind fun bt166 => ((spec_l01Words.f k bt158.1 bt166.1).bind fun t169 => ((spec_l01Next.f t151 bt166.2.1 bt166.2.2 (t169.length : Int)).bind fun bt172 => (if 0 ≤ bt172.1 then (if bt172.1 < (t169.length : Int) then ((spec_l01Next.f t151 bt172.2.1 bt172.2.2 30).bind fun bt176 => (if bt176.1 = 0 then (if (rdOf ByteArray.empty t169 bt172.1).size + 1 ≤ 9223372036854775807 then (some (bt158.1, bt161.1, (rdOf ByteArray.empty t169 bt172.1) ++ (⟨#[51]⟩ : ByteArray))) else (none)) else (if bt176.1 = 1 then (some (bt158.1, bt161.1, (⟨#[48, 48, 48, 48, 48, 48]⟩ : ByteArray))) else (if bt176.1 = 2 then ((spec_l01Pick.f t151 bt176.2.1 bt176.2.2 (([0, 4, 1] : List Int))).bind fun bt182 => (some (bt182.1, bt161.1, rdOf ByteArray.empty t169 bt172.1))) else (some (bt158.1, bt161.1, rdOf ByteArray.empty t169 bt172.1)))))) else (none)) else (none))))))) = some (r1, r2, r3) := H
 have A2 := zA A20
 clear A20
 obtain ⟨y155, hy155⟩ : ∃ y_ : List Int, y_ = (([1, 2, 2, 3] : List Int)) := ⟨_, rfl⟩
 replace H : ((spec_l01Pick.f t151 t152 t153 y155).bind fun bt158 => ((spec_l08Draw.f t151 bt158.2.1 bt158.2.2 bt158.1).bind fun bt161 => ((spec_l01Next.f t151 bt161.2.1 bt161.2.2 4).bind fun bt166 => ((spec_l01Words.f k bt158.1 bt166.1).bind fun t169 => ((spec_l01Next.f t151 bt166.2.1 bt166.2.2 (t169.length : Int)).bind fun bt172 => (if 0 ≤ bt172.1 then (if bt172.1 < (t169.length : Int) then ((spec_l01Next.f t151 bt172.2.1 bt172.2.2 30).bind fun bt176 => (if bt176.1 = 0 then (if (rdOf ByteArray.empty t169 bt172.1).size + 1 ≤ 9223372036854775807 then (some (bt158.1, bt161.1, (rdOf ByteArray.empty t169 bt172.1) ++ (⟨#[51]⟩ : ByteArray))) else (none)) else (if bt176.1 = 1 then (some (bt158.1, bt161.1, (⟨#[48, 48, 48, 48, 48, 48]⟩ : ByteArray))) else (if bt176.1 = 2 then ((spec_l01Pick.f t151 bt176.2.1 bt176.2.2 (([0, 4, 1] : List Int))).bind fun bt182 => (some (bt182.1, bt161.1, rdOf ByteArray.empty t169 bt172.1))) else (some (bt158.1, bt161.1, rdOf ByteArray.empty t169 bt172.1)))))) else (none)) else (none))))))) = some (r1, r2, r3) := by (rw [hy155]; with_reducible exact H)
 have Ny155 := zA hy155
 clear hy155
 replace H := Option.bind_eq_some_iff.mp H
 obtain ⟨⟨t158, t159, t160⟩, A30, H⟩ := H
 replace H : ((spec_l08Draw.f t151 t159 t160 t158).bind fun bt161 => ((spec_l01Next.f t151 bt161.2.1 bt161.2.2 4).bind fun bt166 => ((spec_l01Words.f k t158 bt166.1).bind fun t169 => ((spec_l01Next.f t151 bt166.2.1 bt166.2.2 (t169.length : Int)).bind fun bt172 => (if 0 ≤ bt172.1 then (if bt172.1 < (t169.length : Int) then ((spec_l01Next.f t151 bt172.2.1 bt172.2.2 30).bind fun bt176 => (if bt176.1 = 0 then (if (rdOf ByteArray.empty t169 bt172.1).size + 1 ≤ 9223372036854775807 then (some (t158, bt161.1, (rdOf ByteArray.empty t169 bt172.1) ++ (⟨#[51]⟩ : ByteArray))) else (none)) else (if bt176.1 = 1 then (some (t158, bt161.1, (⟨#[48, 48, 48, 48, 48, 48]⟩ : ByteArray))) else (if bt176.1 = 2 then ((spec_l01Pick.f t151 bt176.2.1 bt176.2.2 (([0, 4, 1] : List Int))).bind fun bt182 => (some (bt182.1, bt161.1, rdOf ByteArray.empty t169 bt172.1))) else (some (t158, bt161.1, rdOf ByteArray.empty t169 bt172.1)))))) else (none)) else (none)))))) = some (r1, r2, r3) := H
 have A3 := zA A30
 clear A30
 replace H := Option.bind_eq_some_iff.mp H
 obtain ⟨⟨t161, t164, t165⟩, A40, H⟩ := H
 replace H : ((spec_l01Next.f t151 t164 t165 4).bind fun bt166 => ((spec_l01Words.f k t158 bt166.1).bind fun t169 => ((spec_l01Next.f t151 bt166.2.1 bt166.2.2 (t169.length : Int)).bind fun bt172 => (if 0 ≤ bt172.1 then (if bt172.1 < (t169.length : Int) then ((spec_l01Next.f t151 bt172.2.1 bt172.2.2 30).bind fun bt176 => (if bt176.1 = 0 then (if (rdOf ByteArray.empty t169 bt172.1).size + 1 ≤ 9223372036854775807 then (some (t158, t161, (rdOf ByteArray.empty t169 bt172.1) ++ (⟨#[51]⟩ : ByteArray))) else (none)) else (if bt176.1 = 1 then (some (t158, t161, (⟨#[48, 48, 48, 48, 48, 48]⟩ : ByteArray))) else (if bt176.1 = 2 then ((spec_l01Pick.f t151 bt176.2.1 bt176.2.2 (([0, 4, 1] : List Int))).bind fun bt182 => (some (bt182.1, t161, rdOf ByteArray.empty t169 bt172.1))) else (some (t158, t161, rdOf ByteArray.empty t169 bt172.1)))))) else (none)) else (none))))) = some (r1, r2, r3) := H
 have A4 := zA A40
 clear A40
 replace H := Option.bind_eq_some_iff.mp H
 obtain ⟨⟨t166, t167, t168⟩, A50, H⟩ := H
 replace H : ((spec_l01Words.f k t158 t166).bind fun t169 => ((spec_l01Next.f t151 t167 t168 (t169.length : Int)).bind fun bt172 => (if 0 ≤ bt172.1 then (if bt172.1 < (t169.length : Int) then ((spec_l01Next.f t151 bt172.2.1 bt172.2.2 30).bind fun bt176 => (if bt176.1 = 0 then (if (rdOf ByteArray.empty t169 bt172.1).size + 1 ≤ 9223372036854775807 then (some (t158, t161, (rdOf ByteArray.empty t169 bt172.1) ++ (⟨#[51]⟩ : ByteArray))) else (none)) else (if bt176.1 = 1 then (some (t158, t161, (⟨#[48, 48, 48, 48, 48, 48]⟩ : ByteArray))) else (if bt176.1 = 2 then ((spec_l01Pick.f t151 bt176.2.1 bt176.2.2 (([0, 4, 1] : List Int))).bind fun bt182 => (some (bt182.1, t161, rdOf ByteArray.empty t169 bt172.1))) else (some (t158, t161, rdOf ByteArray.empty t169 bt172.1)))))) else (none)) else (none)))) = some (r1, r2, r3) := H
 have A5 := zA A50
 clear A50
 replace H := Option.bind_eq_some_iff.mp H
 obtain ⟨t169, A60, H⟩ := H
 replace H : ((spec_l01Next.f t151 t167 t168 (t169.length : Int)).bind fun bt172 => (if 0 ≤ bt172.1 then (if bt172.1 < (t169.length : Int) then ((spec_l01Next.f t151 bt172.2.1 bt172.2.2 30).bind fun bt176 => (if bt176.1 = 0 then (if (rdOf ByteArray.empty t169 bt172.1).size + 1 ≤ 9223372036854775807 then (some (t158, t161, (rdOf ByteArray.empty t169 bt172.1) ++ (⟨#[51]⟩ : ByteArray))) else (none)) else (if bt176.1 = 1 then (some (t158, t161, (⟨#[48, 48, 48, 48, 48, 48]⟩ : ByteArray))) else (if bt176.1 = 2 then ((spec_l01Pick.f t151 bt176.2.1 bt176.2.2 (([0, 4, 1] : List Int))).bind fun bt182 => (some (bt182.1, t161, rdOf ByteArray.empty t169 bt172.1))) else (some (t158, t161, rdOf ByteArray.empty t169 bt172.1)))))) else (none)) else (none))) = some (r1, r2, r3) := H
 have A6 := zA A60
 clear A60
 replace H := Option.bind_eq_some_iff.mp H
 obtain ⟨⟨t172, t173, t174⟩, A70, H⟩ := H
 replace H : (if 0 ≤ t172 then (if t172 < (t169.length : Int) then ((spec_l01Next.f t151 t173 t174 30).bind fun bt176 => (if bt176.1 = 0 then (if (rdOf ByteArray.empty t169 t172).size + 1 ≤ 9223372036854775807 then (some (t158, t161, (rdOf ByteArray.empty t169 t172) ++ (⟨#[51]⟩ : ByteArray))) else (none)) else (if bt176.1 = 1 then (some (t158, t161, (⟨#[48, 48, 48, 48, 48, 48]⟩ : ByteArray))) else (if bt176.1 = 2 then ((spec_l01Pick.f t151 bt176.2.1 bt176.2.2 (([0, 4, 1] : List Int))).bind fun bt182 => (some (bt182.1, t161, rdOf ByteArray.empty t169 t172))) else (some (t158, t161, rdOf ByteArray.empty t169 t172)))))) else (none)) else (none)) = some (r1, r2, r3) := H
 have A7 := zA A70
 clear A70
 by_cases c8 : 0 ≤ t172
 ·rw [if_pos c8] at H
  have c8b0 : decide (0 ≤ t172) = true := decide_eq_true c8
  clear c8
  by_cases c9 : t172 < (t169.length : Int)
  ·rw [if_pos c9] at H
   have c9b0 : decide (t172 < (t169.length : Int)) = true := decide_eq_true c9
   clear c9
   replace H := Option.bind_eq_some_iff.mp H
   obtain ⟨⟨t176, t177, t178⟩, A100, H⟩ := H
   replace H : (if t176 = 0 then (if (rdOf ByteArray.empty t169 t172).size + 1 ≤ 9223372036854775807 then (some (t158, t161, (rdOf ByteArray.empty t169 t172) ++ (⟨#[51]⟩ : ByteArray))) else (none)) else (if t176 = 1 then (some (t158, t161, (⟨#[48, 48, 48, 48, 48, 48]⟩ : ByteArray))) else (if t176 = 2 then ((spec_l01Pick.f t151 t177 t178 (([0, 4, 1] : List Int))).bind fun bt182 => (some (bt182.1, t161, rdOf ByteArray.empty t169 t172))) else (some (t158, t161, rdOf ByteArray.empty t169 t172))))) = some (r1, r2, r3) := H
   have A10 := zA A100
   clear A100
   by_cases c11 : t176 = 0
   ·rw [if_pos c11] at H
    have c11b0 : (t176 == 0) = true := beq_iff_eq.mpr c11
    have c11b1 : (t176 != 0) = false := bne_eq_false_iff_eq.mpr c11
    clear c11
    by_cases c12 : (rdOf ByteArray.empty t169 t172).size + 1 ≤ 9223372036854775807
    ·rw [if_pos c12] at H
     have c12b0 := eq_true c12
     have c12b1 : decide ((rdOf ByteArray.empty t169 t172).size + 1 ≤ 9223372036854775807) = true := decide_eq_true c12
     try have c12b2 : (9223372036854775807 < (rdOf ByteArray.empty t169 t172).size + 1) = False := eq_false (Nat.not_lt.2 c12)
     simp only [Option.some.injEq, Prod.mk.injEq] at H
     obtain ⟨rfl, rfl, rfl⟩ := H
     go_enter Try.func45, Try.ntmps45
     go_wp2_with (first | ((with_reducible refine gate_callee (f := 56) rfl ?_); refine goesL_ (some 11) rfl rfl Try.func56 (by kernel_rfl) rfl #[.slice A0 l0.length c0] rfl zM ?_; (with_reducible refine (spec_l01From.calls k _ _ l0 t151 t152 t153 w _ ?side1 ?side2 ?side3 A2.out).mono ?_); (case side1 => repeat ((with_reducible exact HB.out))); (case side2 => exact HR0.out); (case side3 => exact HC0.out); rintro e w13 ⟨g154, rfl, hi, hb, hb2⟩; refine ⟨_, rfl, ?_⟩; have HI154 := zA (hi); replace HB := zA (hb); (try clear hb); (try clear hb2); (try clear hk); (try clear hi)) | ((with_reducible refine gate_dst (N := 13) rfl ?_); refine Kd.R_lit (Kd.int .i64) _ 2 ?hg (N := 13) ?hd (xs := ([1, 2, 2, 3] : List Int)) (inner := [.int .i64 1, .int .i64 2, .int .i64 2, .int .i64 3]) (ok := fun _ => True) (okp := fun _ => True) ?hr ?hp (fun _ hk => hk) trivial (Below.refl _ _) (Nat.le_refl _) (by simp) ?_; (case hd => rfl); (case hg => rfl); (case hr => (go_simp; done)); (case hp => exact (Reps.one (show Kd.M (Kd.int .i64) _ _ _ 1 [.int .i64 1] from rfl) (Reps.one (show Kd.M (Kd.int .i64) _ _ _ 2 [.int .i64 2] from rfl) (Reps.one (show Kd.M (Kd.int .i64) _ _ _ 2 [.int .i64 2] from rfl) (Reps.one (show Kd.M (Kd.int .i64) _ _ _ 3 [.int .i64 3] from rfl) (Reps.none _ _)))))); intro v156 w14 ho15 hb hg_ hnew_; clear hg_ hnew_; (rw [← Ny155.out] at ho15); have n0_ := zA (Kd.R_lower (Kd.R_newM (M := fun k_ => (w.heap.size ≤ k_)) ho15 (below_size (by repeat ((with_reducible exact HB.out)))) (fun k_ h_ => h_)) (below_size (by repeat ((with_reducible exact HB.out))))); have n1_ := zA (IsS104.below (by repeat ((with_reducible exact HI154.out))) hb); have n2_ := zA (below_step (by repeat ((with_reducible exact HB.out))) hb); clear HI154; clear HB; have HO157 := n0_; have HI154 := n1_; have HB := n2_; clear n0_ n1_ n2_; clear hb ho15; obtain ⟨Ao16, co16, eo16⟩ := Kd.R_slice HO157.out; subst eo16) | ((with_reducible refine gate_callee (f := 57) rfl ?_); refine goesL_ (some 14) rfl rfl Try.func57 (by kernel_rfl) rfl #[.pointer (some ⟨g154, 0, none⟩), .slice Ao16 y155.length co16] rfl zM ?_; (with_reducible refine (spec_l01Pick.calls g154 t151 t152 t153 _ _ y155 t158 t159 t160 w _ ?side1 ?side2 ?side3 ?side4 ?side5 A3.out).mono ?_); (case side1 => repeat ((with_reducible exact HI154.out))); (case side2 => repeat ((with_reducible exact HB.out))); (case side3 => repeat (exact (Kd.R_reads' HO157.out).2.2)); (case side4 => exact (Kd.R_reads' HO157.out).2.1); (case side5 => exact far_slice (IsS104.own_ne HI154.out HO157.out (by decide))); rintro e w17 ⟨rfl, hi, hb, hk⟩; refine ⟨_, rfl, ?_⟩; replace HO157 := zA (Kd.R_mono (Kd.R_keep (IsS104.apart (show IsS104 w _ g154 t151 t152 t153 from by repeat ((with_reducible exact HI154.out))) zR (by decide)) hk (fun _ h => h.2)) (fun _ h => h.1)); replace HI154 := zA (hi); replace HB := zA (hb); (try clear hb); (try clear hb2); (try clear hk); (try clear hi)) | ((with_reducible refine gate_callee (f := 85) rfl ?_); refine goesL_ (some 17) rfl rfl Try.func85 (by kernel_rfl) rfl #[.pointer (some ⟨g154, 0, none⟩), .int .i64 t158] rfl zM ?_; (with_reducible refine (spec_l08Draw.calls g154 t151 t159 t160 t158 t161 t164 t165 w _ ?side1 ?side2 A4.out).mono ?_); (case side1 => repeat ((with_reducible exact HI154.out))); (case side2 => repeat ((with_reducible exact HB.out))); rintro e w18 ⟨v162, rfl, ho0, hi, hb, hk⟩; refine ⟨_, rfl, ?_⟩; have HO163 := zA (Kd.N_lower (Kd.N_mono (ok' := fun k_ => (w.heap.size ≤ k_) ∧ some k_ ≠ (.slice Ao16 y155.length co16 : Value).ownBlock ∧ k_ ≠ g154) ho0 (fun k_ hk_ => ⟨(Nat.le_trans (below_size (by repeat ((with_reducible exact HB.out)))) hk_), (Kd.fresh' (Kd.R_lt HO157.out) k_ hk_), (IsS104.fresh (by repeat ((with_reducible exact HI154.out))) k_ hk_)⟩)) (below_size (by repeat ((with_reducible exact HB.out))))); replace HO157 := zA (Kd.R_mono (Kd.R_keep (IsS104.apart (show IsS104 w _ g154 t151 t159 t160 from by repeat ((with_reducible exact HI154.out))) zR (by decide)) hk (fun _ h => h.2)) (fun _ h => h.1)); replace HI154 := zA (hi); replace HB := zA (hb); (try clear hb); (try clear hb2); (try clear hk); (try clear hi); (try clear ho0)) | ((with_reducible refine gate_callee (f := 67) rfl ?_); refine goesL_ (some 20) rfl rfl Try.func67 (by kernel_rfl) rfl #[.pointer (some ⟨g154, 0, none⟩), .int .i64 4] rfl zM ?_; (with_reducible refine (spec_l01Next.calls g154 t151 t164 t165 4 t166 t167 t168 w _ ?side1 ?side2 A5.out).mono ?_); (case side1 => repeat ((with_reducible exact HI154.out))); (case side2 => repeat ((with_reducible exact HB.out))); rintro e w19 ⟨rfl, hi, hb, hk⟩; refine ⟨_, rfl, ?_⟩; replace HO157 := zA (Kd.R_mono (Kd.R_keep (IsS104.apart (show IsS104 w _ g154 t151 t164 t165 from by repeat ((with_reducible exact HI154.out))) zR (by decide)) hk (fun _ h => h.2)) (fun _ h => h.1)); replace HO163 := zA (Kd.N_mono (Kd.N_keep (Kd.N_mono (ok := fun k_ => (((w.heap.size ≤ k_)) ∧ (some k_ ≠ (.slice Ao16 y155.length co16 : Value).ownBlock ∧ k_ ≠ g154))) (by exact HO163.out) (fun k_ hk_ => (⟨hk_, hk_.2.2⟩ : _ ∧ k_ ≠ g154))) hk (fun _ h => h.2)) (fun _ h => h.1)); replace HI154 := zA (hi); replace HB := zA (hb); (try clear hb); (try clear hb2); (try clear hk); (try clear hi)) | ((with_reducible refine gate_callee (f := 62) rfl ?_); refine goesL_ (some 21) rfl rfl Try.func62 (by kernel_rfl) rfl #[.int .i64 t158, .int .i64 t166] rfl zM ?_; (with_reducible refine (spec_l01Words.calls k t158 t166 t169 _ A6.out).mono ?_); rintro e w20 ⟨v170, rfl, ho0, hb⟩; refine ⟨_, rfl, ?_⟩; have n0_ := zA (Kd.R_below HO157.out hb); have n1_ := zA (Kd.N_elder' (by exact HO163.out) (Kd.R_base ho0) hb); have n2_ := zA (Kd.R_lower (Kd.R_newM (M := fun k_ => (w.heap.size ≤ k_)) ho0 (below_size (by repeat ((with_reducible exact HB.out)))) (fun k_ h_ => h_)) (below_size (by repeat ((with_reducible exact HB.out))))); have n3_ := zA (IsS104.below (by repeat ((with_reducible exact HI154.out))) hb); have n4_ := zA (below_step (by repeat ((with_reducible exact HB.out))) hb); clear HO157; clear HO163; clear HI154; clear HB; have HO157 := n0_; have HO163 := n1_; have HO171 := n2_; have HI154 := n3_; have HB := n4_; clear n0_ n1_ n2_ n3_ n4_; (try clear hb); (try clear hb2); (try clear hk); (try clear hi); (try clear ho0); obtain ⟨Ao21, co21, eo21⟩ := Kd.R_slice HO171.out; subst eo21) | ((with_reducible refine gate_callee (f := 67) rfl ?_); refine goesL_ (some 26) rfl rfl Try.func67 (by kernel_rfl) rfl #[.pointer (some ⟨g154, 0, none⟩), .int .i64 (t169.length : Int)] rfl zM ?_; (with_reducible refine (spec_l01Next.calls g154 t151 t167 t168 (t169.length : Int) t172 t173 t174 w _ ?side1 ?side2 A7.out).mono ?_); (case side1 => repeat ((with_reducible exact HI154.out))); (case side2 => repeat ((with_reducible exact HB.out))); rintro e w22 ⟨rfl, hi, hb, hk⟩; refine ⟨_, rfl, ?_⟩; replace HO157 := zA (Kd.R_mono (Kd.R_keep (IsS104.apart (show IsS104 w _ g154 t151 t167 t168 from by repeat ((with_reducible exact HI154.out))) zR (by decide)) hk (fun _ h => h.2)) (fun _ h => h.1)); replace HO163 := zA (Kd.N_mono (Kd.N_keep (Kd.N_mono (ok := fun k_ => ((((w.heap.size ≤ k_)) ∧ (some k_ ≠ (.slice Ao16 y155.length co16 : Value).ownBlock ∧ k_ ≠ g154)) ∧ some k_ ≠ (.slice Ao21 t169.length co21 : Value).ownBlock)) (by exact HO163.out) (fun k_ hk_ => (⟨hk_, hk_.1.2.2⟩ : _ ∧ k_ ≠ g154))) hk (fun _ h => h.2)) (fun _ h => h.1)); replace HO171 := zA (Kd.R_mono (Kd.R_keep (IsS104.apart (show IsS104 w _ g154 t151 t167 t168 from by repeat ((with_reducible exact HI154.out))) zR (by decide)) hk (fun _ h => h.2)) (fun _ h => h.1)); replace HI154 := zA (hi); replace HB := zA (hb); (try clear hb); (try clear hb2); (try clear hk); (try clear hi); have p175 : 0 ≤ (t172 : Int) := zD; have q175 : t172 < (t169.length : Int) := zD; obtain ⟨ad175, e175, hx175_0⟩ := Kd.at_string (Kd.R_reads' HO171.out).2.2 t172 p175 q175; cases e175; replace p175 := eq_true p175; replace q175 := eq_true q175) | ((with_reducible refine gate_callee (f := 67) rfl ?_); refine goesL_ (some 30) rfl rfl Try.func67 (by kernel_rfl) rfl #[.pointer (some ⟨g154, 0, none⟩), .int .i64 30] rfl zM ?_; (with_reducible refine (spec_l01Next.calls g154 t151 t173 t174 30 t176 t177 t178 w _ ?side1 ?side2 A10.out).mono ?_); (case side1 => repeat ((with_reducible exact HI154.out))); (case side2 => repeat ((with_reducible exact HB.out))); rintro e w23 ⟨rfl, hi, hb, hk⟩; refine ⟨_, rfl, ?_⟩; replace HO157 := zA (Kd.R_mono (Kd.R_keep (IsS104.apart (show IsS104 w _ g154 t151 t173 t174 from by repeat ((with_reducible exact HI154.out))) zR (by decide)) hk (fun _ h => h.2)) (fun _ h => h.1)); replace HO163 := zA (Kd.N_mono (Kd.N_keep (Kd.N_mono (ok := fun k_ => ((((w.heap.size ≤ k_)) ∧ (some k_ ≠ (.slice Ao16 y155.length co16 : Value).ownBlock ∧ k_ ≠ g154)) ∧ some k_ ≠ (.slice (some ad175) t169.length co21 : Value).ownBlock)) (by exact HO163.out) (fun k_ hk_ => (⟨hk_, hk_.1.2.2⟩ : _ ∧ k_ ≠ g154))) hk (fun _ h => h.2)) (fun _ h => h.1)); replace HO171 := zA (Kd.R_mono (Kd.R_keep (IsS104.apart (show IsS104 w _ g154 t151 t173 t174 from by repeat ((with_reducible exact HI154.out))) zR (by decide)) hk (fun _ h => h.2)) (fun _ h => h.1)); replace HI154 := zA (hi); replace HB := zA (hb); (try clear hb); (try clear hb2); (try clear hk); (try clear hi)))
     go_ret3
     exact ⟨_, by rfl, by exact Kd.N_mono HO163.out (fun _ hk => hk.1.1), by repeat ((with_reducible exact HB.out))⟩
    ·rw [if_neg c12] at H
     exact absurd H (by simp)
   ·rw [if_neg c11] at H
    have c11b0 : (t176 == 0) = false := beq_eq_false_iff_ne.mpr c11
    have c11b1 : (t176 != 0) = true := bne_iff_ne.mpr c11
    by_cases c24 : t176 = 1
    ·rw [if_pos c24] at H
     have c24b0 : (t176 == 1) = true := beq_iff_eq.mpr c24
     have c24b1 : (t176 != 1) = false := bne_eq_false_iff_eq.mpr c24
     clear c24
     simp only [Option.some.injEq, Prod.mk.injEq] at H
     obtain ⟨rfl, rfl, rfl⟩ := H
     go_enter Try.func45, Try.ntmps45
     go_wp2_with (first | ((with_reducible refine gate_callee (f := 56) rfl ?_); refine goesL_ (some 11) rfl rfl Try.func56 (by kernel_rfl) rfl #[.slice A0 l0.length c0] rfl zM ?_; (with_reducible refine (spec_l01From.calls k _ _ l0 t151 t152 t153 w _ ?side1 ?side2 ?side3 A2.out).mono ?_); (case side1 => repeat ((with_reducible exact HB.out))); (case side2 => exact HR0.out); (case side3 => exact HC0.out); rintro e w25 ⟨g154, rfl, hi, hb, hb2⟩; refine ⟨_, rfl, ?_⟩; have HI154 := zA (hi); replace HB := zA (hb); (try clear hb); (try clear hb2); (try clear hk); (try clear hi)) | ((with_reducible refine gate_dst (N := 13) rfl ?_); refine Kd.R_lit (Kd.int .i64) _ 2 ?hg (N := 13) ?hd (xs := ([1, 2, 2, 3] : List Int)) (inner := [.int .i64 1, .int .i64 2, .int .i64 2, .int .i64 3]) (ok := fun _ => True) (okp := fun _ => True) ?hr ?hp (fun _ hk => hk) trivial (Below.refl _ _) (Nat.le_refl _) (by simp) ?_; (case hd => rfl); (case hg => rfl); (case hr => (go_simp; done)); (case hp => exact (Reps.one (show Kd.M (Kd.int .i64) _ _ _ 1 [.int .i64 1] from rfl) (Reps.one (show Kd.M (Kd.int .i64) _ _ _ 2 [.int .i64 2] from rfl) (Reps.one (show Kd.M (Kd.int .i64) _ _ _ 2 [.int .i64 2] from rfl) (Reps.one (show Kd.M (Kd.int .i64) _ _ _ 3 [.int .i64 3] from rfl) (Reps.none _ _)))))); intro v156 w26 ho27 hb hg_ hnew_; clear hg_ hnew_; (rw [← Ny155.out] at ho27); have n0_ := zA (Kd.R_lower (Kd.R_newM (M := fun k_ => (w.heap.size ≤ k_)) ho27 (below_size (by repeat ((with_reducible exact HB.out)))) (fun k_ h_ => h_)) (below_size (by repeat ((with_reducible exact HB.out))))); have n1_ := zA (IsS104.below (by repeat ((with_reducible exact HI154.out))) hb); have n2_ := zA (below_step (by repeat ((with_reducible exact HB.out))) hb); clear HI154; clear HB; have HO157 := n0_; have HI154 := n1_; have HB := n2_; clear n0_ n1_ n2_; clear hb ho27; obtain ⟨Ao28, co28, eo28⟩ := Kd.R_slice HO157.out; subst eo28) | ((with_reducible refine gate_callee (f := 57) rfl ?_); refine goesL_ (some 14) rfl rfl Try.func57 (by kernel_rfl) rfl #[.pointer (some ⟨g154, 0, none⟩), .slice Ao28 y155.length co28] rfl zM ?_; (with_reducible refine (spec_l01Pick.calls g154 t151 t152 t153 _ _ y155 t158 t159 t160 w _ ?side1 ?side2 ?side3 ?side4 ?side5 A3.out).mono ?_); (case side1 => repeat ((with_reducible exact HI154.out))); (case side2 => repeat ((with_reducible exact HB.out))); (case side3 => repeat (exact (Kd.R_reads' HO157.out).2.2)); (case side4 => exact (Kd.R_reads' HO157.out).2.1); (case side5 => exact far_slice (IsS104.own_ne HI154.out HO157.out (by decide))); rintro e w29 ⟨rfl, hi, hb, hk⟩; refine ⟨_, rfl, ?_⟩; replace HO157 := zA (Kd.R_mono (Kd.R_keep (IsS104.apart (show IsS104 w _ g154 t151 t152 t153 from by repeat ((with_reducible exact HI154.out))) zR (by decide)) hk (fun _ h => h.2)) (fun _ h => h.1)); replace HI154 := zA (hi); replace HB := zA (hb); (try clear hb); (try clear hb2); (try clear hk); (try clear hi)) | ((with_reducible refine gate_callee (f := 85) rfl ?_); refine goesL_ (some 17) rfl rfl Try.func85 (by kernel_rfl) rfl #[.pointer (some ⟨g154, 0, none⟩), .int .i64 t158] rfl zM ?_; (with_reducible refine (spec_l08Draw.calls g154 t151 t159 t160 t158 t161 t164 t165 w _ ?side1 ?side2 A4.out).mono ?_); (case side1 => repeat ((with_reducible exact HI154.out))); (case side2 => repeat ((with_reducible exact HB.out))); rintro e w30 ⟨v162, rfl, ho0, hi, hb, hk⟩; refine ⟨_, rfl, ?_⟩; have HO163 := zA (Kd.N_lower (Kd.N_mono (ok' := fun k_ => (w.heap.size ≤ k_) ∧ some k_ ≠ (.slice Ao28 y155.length co28 : Value).ownBlock ∧ k_ ≠ g154) ho0 (fun k_ hk_ => ⟨(Nat.le_trans (below_size (by repeat ((with_reducible exact HB.out)))) hk_), (Kd.fresh' (Kd.R_lt HO157.out) k_ hk_), (IsS104.fresh (by repeat ((with_reducible exact HI154.out))) k_ hk_)⟩)) (below_size (by repeat ((with_reducible exact HB.out))))); replace HO157 := zA (Kd.R_mono (Kd.R_keep (IsS104.apart (show IsS104 w _ g154 t151 t159 t160 from by repeat ((with_reducible exact HI154.out))) zR (by decide)) hk (fun _ h => h.2)) (fun _ h => h.1)); replace HI154 := zA (hi); replace HB := zA (hb); (try clear hb); (try clear hb2); (try clear hk); (try clear hi); (try clear ho0)) | ((with_reducible refine gate_callee (f := 67) rfl ?_); refine goesL_ (some 20) rfl rfl Try.func67 (by kernel_rfl) rfl #[.pointer (some ⟨g154, 0, none⟩), .int .i64 4] rfl zM ?_; (with_reducible refine (spec_l01Next.calls g154 t151 t164 t165 4 t166 t167 t168 w _ ?side1 ?side2 A5.out).mono ?_); (case side1 => repeat ((with_reducible exact HI154.out))); (case side2 => repeat ((with_reducible exact HB.out))); rintro e w31 ⟨rfl, hi, hb, hk⟩; refine ⟨_, rfl, ?_⟩; replace HO157 := zA (Kd.R_mono (Kd.R_keep (IsS104.apart (show IsS104 w _ g154 t151 t164 t165 from by repeat ((with_reducible exact HI154.out))) zR (by decide)) hk (fun _ h => h.2)) (fun _ h => h.1)); replace HO163 := zA (Kd.N_mono (Kd.N_keep (Kd.N_mono (ok := fun k_ => (((w.heap.size ≤ k_)) ∧ (some k_ ≠ (.slice Ao28 y155.length co28 : Value).ownBlock ∧ k_ ≠ g154))) (by exact HO163.out) (fun k_ hk_ => (⟨hk_, hk_.2.2⟩ : _ ∧ k_ ≠ g154))) hk (fun _ h => h.2)) (fun _ h => h.1)); replace HI154 := zA (hi); replace HB := zA (hb); (try clear hb); (try clear hb2); (try clear hk); (try clear hi)) | ((with_reducible refine gate_callee (f := 62) rfl ?_); refine goesL_ (some 21) rfl rfl Try.func62 (by kernel_rfl) rfl #[.int .i64 t158, .int .i64 t166] rfl zM ?_; (with_reducible refine (spec_l01Words.calls k t158 t166 t169 _ A6.out).mono ?_); rintro e w32 ⟨v170, rfl, ho0, hb⟩; refine ⟨_, rfl, ?_⟩; have n0_ := zA (Kd.R_below HO157.out hb); have n1_ := zA (Kd.N_elder' (by exact HO163.out) (Kd.R_base ho0) hb); have n2_ := zA (Kd.R_lower (Kd.R_newM (M := fun k_ => (w.heap.size ≤ k_)) ho0 (below_size (by repeat ((with_reducible exact HB.out)))) (fun k_ h_ => h_)) (below_size (by repeat ((with_reducible exact HB.out))))); have n3_ := zA (IsS104.below (by repeat ((with_reducible exact HI154.out))) hb); have n4_ := zA (below_step (by repeat ((with_reducible exact HB.out))) hb); clear HO157; clear HO163; clear HI154; clear HB; have HO157 := n0_; have HO163 := n1_; have HO171 := n2_; have HI154 := n3_; have HB := n4_; clear n0_ n1_ n2_ n3_ n4_; (try clear hb); (try clear hb2); (try clear hk); (try clear hi); (try clear ho0); obtain ⟨Ao33, co33, eo33⟩ := Kd.R_slice HO171.out; subst eo33) | ((with_reducible refine gate_callee (f := 67) rfl ?_); refine goesL_ (some 26) rfl rfl Try.func67 (by kernel_rfl) rfl #[.pointer (some ⟨g154, 0, none⟩), .int .i64 (t169.length : Int)] rfl zM ?_; (with_reducible refine (spec_l01Next.calls g154 t151 t167 t168 (t169.length : Int) t172 t173 t174 w _ ?side1 ?side2 A7.out).mono ?_); (case side1 => repeat ((with_reducible exact HI154.out))); (case side2 => repeat ((with_reducible exact HB.out))); rintro e w34 ⟨rfl, hi, hb, hk⟩; refine ⟨_, rfl, ?_⟩; replace HO157 := zA (Kd.R_mono (Kd.R_keep (IsS104.apart (show IsS104 w _ g154 t151 t167 t168 from by repeat ((with_reducible exact HI154.out))) zR (by decide)) hk (fun _ h => h.2)) (fun _ h => h.1)); replace HO163 := zA (Kd.N_mono (Kd.N_keep (Kd.N_mono (ok := fun k_ => ((((w.heap.size ≤ k_)) ∧ (some k_ ≠ (.slice Ao28 y155.length co28 : Value).ownBlock ∧ k_ ≠ g154)) ∧ some k_ ≠ (.slice Ao33 t169.length co33 : Value).ownBlock)) (by exact HO163.out) (fun k_ hk_ => (⟨hk_, hk_.1.2.2⟩ : _ ∧ k_ ≠ g154))) hk (fun _ h => h.2)) (fun _ h => h.1)); replace HO171 := zA (Kd.R_mono (Kd.R_keep (IsS104.apart (show IsS104 w _ g154 t151 t167 t168 from by repeat ((with_reducible exact HI154.out))) zR (by decide)) hk (fun _ h => h.2)) (fun _ h => h.1)); replace HI154 := zA (hi); replace HB := zA (hb); (try clear hb); (try clear hb2); (try clear hk); (try clear hi); have p175 : 0 ≤ (t172 : Int) := zD; have q175 : t172 < (t169.length : Int) := zD; obtain ⟨ad175, e175, hx175_0⟩ := Kd.at_string (Kd.R_reads' HO171.out).2.2 t172 p175 q175; cases e175; replace p175 := eq_true p175; replace q175 := eq_true q175) | ((with_reducible refine gate_callee (f := 67) rfl ?_); refine goesL_ (some 30) rfl rfl Try.func67 (by kernel_rfl) rfl #[.pointer (some ⟨g154, 0, none⟩), .int .i64 30] rfl zM ?_; (with_reducible refine (spec_l01Next.calls g154 t151 t173 t174 30 t176 t177 t178 w _ ?side1 ?side2 A10.out).mono ?_); (case side1 => repeat ((with_reducible exact HI154.out))); (case side2 => repeat ((with_reducible exact HB.out))); rintro e w35 ⟨rfl, hi, hb, hk⟩; refine ⟨_, rfl, ?_⟩; replace HO157 := zA (Kd.R_mono (Kd.R_keep (IsS104.apart (show IsS104 w _ g154 t151 t173 t174 from by repeat ((with_reducible exact HI154.out))) zR (by decide)) hk (fun _ h => h.2)) (fun _ h => h.1)); replace HO163 := zA (Kd.N_mono (Kd.N_keep (Kd.N_mono (ok := fun k_ => ((((w.heap.size ≤ k_)) ∧ (some k_ ≠ (.slice Ao28 y155.length co28 : Value).ownBlock ∧ k_ ≠ g154)) ∧ some k_ ≠ (.slice (some ad175) t169.length co33 : Value).ownBlock)) (by exact HO163.out) (fun k_ hk_ => (⟨hk_, hk_.1.2.2⟩ : _ ∧ k_ ≠ g154))) hk (fun _ h => h.2)) (fun _ h => h.1)); replace HO171 := zA (Kd.R_mono (Kd.R_keep (IsS104.apart (show IsS104 w _ g154 t151 t173 t174 from by repeat ((with_reducible exact HI154.out))) zR (by decide)) hk (fun _ h => h.2)) (fun _ h => h.1)); replace HI154 := zA (hi); replace HB := zA (hb); (try clear hb); (try clear hb2); (try clear hk); (try clear hi)))
     go_ret3
     exact ⟨_, by rfl, by exact Kd.N_mono HO163.out (fun _ hk => hk.1.1), by repeat ((with_reducible exact HB.out))⟩
    ·rw [if_neg c24] at H
     have c24b0 : (t176 == 1) = false := beq_eq_false_iff_ne.mpr c24
     have c24b1 : (t176 != 1) = true := bne_iff_ne.mpr c24
     by_cases c36 : t176 = 2
     ·rw [if_pos c36] at H
      have c36b0 : (t176 == 2) = true := beq_iff_eq.mpr c36
      have c36b1 : (t176 != 2) = false := bne_eq_false_iff_eq.mpr c36
      clear c36
      obtain ⟨y179, hy179⟩ : ∃ y_ : List Int, y_ = (([0, 4, 1] : List Int)) := ⟨_, rfl⟩
      replace H : ((spec_l01Pick.f t151 t177 t178 y179).bind fun bt182 => (some (bt182.1, t161, rdOf ByteArray.empty t169 t172))) = some (r1, r2, r3) := by (rw [hy179]; with_reducible exact H)
      have Ny179 := zA hy179
      clear hy179
      replace H := Option.bind_eq_some_iff.mp H
      obtain ⟨⟨t182, t183, t184⟩, A370, H⟩ := H
      replace H : (some (t182, t161, rdOf ByteArray.empty t169 t172)) = some (r1, r2, r3) := H
      have A37 := zA A370
      clear A370
      simp only [Option.some.injEq, Prod.mk.injEq] at H
      obtain ⟨rfl, rfl, rfl⟩ := H
      go_enter Try.func45, Try.ntmps45
      go_wp2_with (first | ((with_reducible refine gate_callee (f := 56) rfl ?_); refine goesL_ (some 11) rfl rfl Try.func56 (by kernel_rfl) rfl #[.slice A0 l0.length c0] rfl zM ?_; (with_reducible refine (spec_l01From.calls k _ _ l0 t151 t152 t153 w _ ?side1 ?side2 ?side3 A2.out).mono ?_); (case side1 => repeat ((with_reducible exact HB.out))); (case side2 => exact HR0.out); (case side3 => exact HC0.out); rintro e w38 ⟨g154, rfl, hi, hb, hb2⟩; refine ⟨_, rfl, ?_⟩; have HI154 := zA (hi); replace HB := zA (hb); (try clear hb); (try clear hb2); (try clear hk); (try clear hi)) | ((with_reducible refine gate_dst (N := 13) rfl ?_); refine Kd.R_lit (Kd.int .i64) _ 2 ?hg (N := 13) ?hd (xs := ([1, 2, 2, 3] : List Int)) (inner := [.int .i64 1, .int .i64 2, .int .i64 2, .int .i64 3]) (ok := fun _ => True) (okp := fun _ => True) ?hr ?hp (fun _ hk => hk) trivial (Below.refl _ _) (Nat.le_refl _) (by simp) ?_; (case hd => rfl); (case hg => rfl); (case hr => (go_simp; done)); (case hp => exact (Reps.one (show Kd.M (Kd.int .i64) _ _ _ 1 [.int .i64 1] from rfl) (Reps.one (show Kd.M (Kd.int .i64) _ _ _ 2 [.int .i64 2] from rfl) (Reps.one (show Kd.M (Kd.int .i64) _ _ _ 2 [.int .i64 2] from rfl) (Reps.one (show Kd.M (Kd.int .i64) _ _ _ 3 [.int .i64 3] from rfl) (Reps.none _ _)))))); intro v156 w39 ho40 hb hg_ hnew_; clear hg_ hnew_; (rw [← Ny155.out] at ho40); have n0_ := zA (Kd.R_lower (Kd.R_newM (M := fun k_ => (w.heap.size ≤ k_)) ho40 (below_size (by repeat ((with_reducible exact HB.out)))) (fun k_ h_ => h_)) (below_size (by repeat ((with_reducible exact HB.out))))); have n1_ := zA (IsS104.below (by repeat ((with_reducible exact HI154.out))) hb); have n2_ := zA (below_step (by repeat ((with_reducible exact HB.out))) hb); clear HI154; clear HB; have HO157 := n0_; have HI154 := n1_; have HB := n2_; clear n0_ n1_ n2_; clear hb ho40; obtain ⟨Ao41, co41, eo41⟩ := Kd.R_slice HO157.out; subst eo41) | ((with_reducible refine gate_callee (f := 57) rfl ?_); refine goesL_ (some 14) rfl rfl Try.func57 (by kernel_rfl) rfl #[.pointer (some ⟨g154, 0, none⟩), .slice Ao41 y155.length co41] rfl zM ?_; (with_reducible refine (spec_l01Pick.calls g154 t151 t152 t153 _ _ y155 t158 t159 t160 w _ ?side1 ?side2 ?side3 ?side4 ?side5 A3.out).mono ?_); (case side1 => repeat ((with_reducible exact HI154.out))); (case side2 => repeat ((with_reducible exact HB.out))); (case side3 => repeat (exact (Kd.R_reads' HO157.out).2.2)); (case side4 => exact (Kd.R_reads' HO157.out).2.1); (case side5 => exact far_slice (IsS104.own_ne HI154.out HO157.out (by decide))); rintro e w42 ⟨rfl, hi, hb, hk⟩; refine ⟨_, rfl, ?_⟩; replace HO157 := zA (Kd.R_mono (Kd.R_keep (IsS104.apart (show IsS104 w _ g154 t151 t152 t153 from by repeat ((with_reducible exact HI154.out))) zR (by decide)) hk (fun _ h => h.2)) (fun _ h => h.1)); replace HI154 := zA (hi); replace HB := zA (hb); (try clear hb); (try clear hb2); (try clear hk); (try clear hi)) | ((with_reducible refine gate_callee (f := 85) rfl ?_); refine goesL_ (some 17) rfl rfl Try.func85 (by kernel_rfl) rfl #[.pointer (some ⟨g154, 0, none⟩), .int .i64 t158] rfl zM ?_; (with_reducible refine (spec_l08Draw.calls g154 t151 t159 t160 t158 t161 t164 t165 w _ ?side1 ?side2 A4.out).mono ?_); (case side1 => repeat ((with_reducible exact HI154.out))); (case side2 => repeat ((with_reducible exact HB.out))); rintro e w43 ⟨v162, rfl, ho0, hi, hb, hk⟩; refine ⟨_, rfl, ?_⟩; have HO163 := zA (Kd.N_lower (Kd.N_mono (ok' := fun k_ => (w.heap.size ≤ k_) ∧ some k_ ≠ (.slice Ao41 y155.length co41 : Value).ownBlock ∧ k_ ≠ g154) ho0 (fun k_ hk_ => ⟨(Nat.le_trans (below_size (by repeat ((with_reducible exact HB.out)))) hk_), (Kd.fresh' (Kd.R_lt HO157.out) k_ hk_), (IsS104.fresh (by repeat ((with_reducible exact HI154.out))) k_ hk_)⟩)) (below_size (by repeat ((with_reducible exact HB.out))))); replace HO157 := zA (Kd.R_mono (Kd.R_keep (IsS104.apart (show IsS104 w _ g154 t151 t159 t160 from by repeat ((with_reducible exact HI154.out))) zR (by decide)) hk (fun _ h => h.2)) (fun _ h => h.1)); replace HI154 := zA (hi); replace HB := zA (hb); (try clear hb); (try clear hb2); (try clear hk); (try clear hi); (try clear ho0)) | ((with_reducible refine gate_callee (f := 67) rfl ?_); refine goesL_ (some 20) rfl rfl Try.func67 (by kernel_rfl) rfl #[.pointer (some ⟨g154, 0, none⟩), .int .i64 4] rfl zM ?_; (with_reducible refine (spec_l01Next.calls g154 t151 t164 t165 4 t166 t167 t168 w _ ?side1 ?side2 A5.out).mono ?_); (case side1 => repeat ((with_reducible exact HI154.out))); (case side2 => repeat ((with_reducible exact HB.out))); rintro e w44 ⟨rfl, hi, hb, hk⟩; refine ⟨_, rfl, ?_⟩; replace HO157 := zA (Kd.R_mono (Kd.R_keep (IsS104.apart (show IsS104 w _ g154 t151 t164 t165 from by repeat ((with_reducible exact HI154.out))) zR (by decide)) hk (fun _ h => h.2)) (fun _ h => h.1)); replace HO163 := zA (Kd.N_mono (Kd.N_keep (Kd.N_mono (ok := fun k_ => (((w.heap.size ≤ k_)) ∧ (some k_ ≠ (.slice Ao41 y155.length co41 : Value).ownBlock ∧ k_ ≠ g154))) (by exact HO163.out) (fun k_ hk_ => (⟨hk_, hk_.2.2⟩ : _ ∧ k_ ≠ g154))) hk (fun _ h => h.2)) (fun _ h => h.1)); replace HI154 := zA (hi); replace HB := zA (hb); (try clear hb); (try clear hb2); (try clear hk); (try clear hi)) | ((with_reducible refine gate_callee (f := 62) rfl ?_); refine goesL_ (some 21) rfl rfl Try.func62 (by kernel_rfl) rfl #[.int .i64 t158, .int .i64 t166] rfl zM ?_; (with_reducible refine (spec_l01Words.calls k t158 t166 t169 _ A6.out).mono ?_); rintro e w45 ⟨v170, rfl, ho0, hb⟩; refine ⟨_, rfl, ?_⟩; have n0_ := zA (Kd.R_below HO157.out hb); have n1_ := zA (Kd.N_elder' (by exact HO163.out) (Kd.R_base ho0) hb); have n2_ := zA (Kd.R_lower (Kd.R_newM (M := fun k_ => (w.heap.size ≤ k_)) ho0 (below_size (by repeat ((with_reducible exact HB.out)))) (fun k_ h_ => h_)) (below_size (by repeat ((with_reducible exact HB.out))))); have n3_ := zA (IsS104.below (by repeat ((with_reducible exact HI154.out))) hb); have n4_ := zA (below_step (by repeat ((with_reducible exact HB.out))) hb); clear HO157; clear HO163; clear HI154; clear HB; have HO157 := n0_; have HO163 := n1_; have HO171 := n2_; have HI154 := n3_; have HB := n4_; clear n0_ n1_ n2_ n3_ n4_; (try clear hb); (try clear hb2); (try clear hk); (try clear hi); (try clear ho0); obtain ⟨Ao46, co46, eo46⟩ := Kd.R_slice HO171.out; subst eo46) | ((with_reducible refine gate_callee (f := 67) rfl ?_); refine goesL_ (some 26) rfl rfl Try.func67 (by kernel_rfl) rfl #[.pointer (some ⟨g154, 0, none⟩), .int .i64 (t169.length : Int)] rfl zM ?_; (with_reducible refine (spec_l01Next.calls g154 t151 t167 t168 (t169.length : Int) t172 t173 t174 w _ ?side1 ?side2 A7.out).mono ?_); (case side1 => repeat ((with_reducible exact HI154.out))); (case side2 => repeat ((with_reducible exact HB.out))); rintro e w47 ⟨rfl, hi, hb, hk⟩; refine ⟨_, rfl, ?_⟩; replace HO157 := zA (Kd.R_mono (Kd.R_keep (IsS104.apart (show IsS104 w _ g154 t151 t167 t168 from by repeat ((with_reducible exact HI154.out))) zR (by decide)) hk (fun _ h => h.2)) (fun _ h => h.1)); replace HO163 := zA (Kd.N_mono (Kd.N_keep (Kd.N_mono (ok := fun k_ => ((((w.heap.size ≤ k_)) ∧ (some k_ ≠ (.slice Ao41 y155.length co41 : Value).ownBlock ∧ k_ ≠ g154)) ∧ some k_ ≠ (.slice Ao46 t169.length co46 : Value).ownBlock)) (by exact HO163.out) (fun k_ hk_ => (⟨hk_, hk_.1.2.2⟩ : _ ∧ k_ ≠ g154))) hk (fun _ h => h.2)) (fun _ h => h.1)); replace HO171 := zA (Kd.R_mono (Kd.R_keep (IsS104.apart (show IsS104 w _ g154 t151 t167 t168 from by repeat ((with_reducible exact HI154.out))) zR (by decide)) hk (fun _ h => h.2)) (fun _ h => h.1)); replace HI154 := zA (hi); replace HB := zA (hb); (try clear hb); (try clear hb2); (try clear hk); (try clear hi); have p175 : 0 ≤ (t172 : Int) := zD; have q175 : t172 < (t169.length : Int) := zD; obtain ⟨ad175, e175, hx175_0⟩ := Kd.at_string (Kd.R_reads' HO171.out).2.2 t172 p175 q175; cases e175; replace p175 := eq_true p175; replace q175 := eq_true q175) | ((with_reducible refine gate_callee (f := 67) rfl ?_); refine goesL_ (some 30) rfl rfl Try.func67 (by kernel_rfl) rfl #[.pointer (some ⟨g154, 0, none⟩), .int .i64 30] rfl zM ?_; (with_reducible refine (spec_l01Next.calls g154 t151 t173 t174 30 t176 t177 t178 w _ ?side1 ?side2 A10.out).mono ?_); (case side1 => repeat ((with_reducible exact HI154.out))); (case side2 => repeat ((with_reducible exact HB.out))); rintro e w48 ⟨rfl, hi, hb, hk⟩; refine ⟨_, rfl, ?_⟩; replace HO157 := zA (Kd.R_mono (Kd.R_keep (IsS104.apart (show IsS104 w _ g154 t151 t173 t174 from by repeat ((with_reducible exact HI154.out))) zR (by decide)) hk (fun _ h => h.2)) (fun _ h => h.1)); replace HO163 := zA (Kd.N_mono (Kd.N_keep (Kd.N_mono (ok := fun k_ => ((((w.heap.size ≤ k_)) ∧ (some k_ ≠ (.slice Ao41 y155.length co41 : Value).ownBlock ∧ k_ ≠ g154)) ∧ some k_ ≠ (.slice (some ad175) t169.length co46 : Value).ownBlock)) (by exact HO163.out) (fun k_ hk_ => (⟨hk_, hk_.1.2.2⟩ : _ ∧ k_ ≠ g154))) hk (fun _ h => h.2)) (fun _ h => h.1)); replace HO171 := zA (Kd.R_mono (Kd.R_keep (IsS104.apart (show IsS104 w _ g154 t151 t173 t174 from by repeat ((with_reducible exact HI154.out))) zR (by decide)) hk (fun _ h => h.2)) (fun _ h => h.1)); replace HI154 := zA (hi); replace HB := zA (hb); (try clear hb); (try clear hb2); (try clear hk); (try clear hi)) | ((with_reducible refine gate_dst (N := 40) rfl ?_); refine Kd.R_lit (Kd.int .i64) _ 2 ?hg (N := 40) ?hd (xs := ([0, 4, 1] : List Int)) (inner := [.int .i64 0, .int .i64 4, .int .i64 1]) (ok := fun _ => True) (okp := fun _ => True) ?hr ?hp (fun _ hk => hk) trivial (Below.refl _ _) (Nat.le_refl _) (by simp) ?_; (case hd => rfl); (case hg => rfl); (case hr => (go_simp; done)); (case hp => exact (Reps.one (show Kd.M (Kd.int .i64) _ _ _ 0 [.int .i64 0] from rfl) (Reps.one (show Kd.M (Kd.int .i64) _ _ _ 4 [.int .i64 4] from rfl) (Reps.one (show Kd.M (Kd.int .i64) _ _ _ 1 [.int .i64 1] from rfl) (Reps.none _ _))))); intro v180 w49 ho50 hb hg_ hnew_; clear hg_ hnew_; (rw [← Ny179.out] at ho50); have n0_ := zA (Kd.R_elder' zR (Kd.R_base ho50) hb); have n1_ := zA (Kd.N_elder' (by exact HO163.out) (Kd.R_base ho50) hb); have n2_ := zA (Kd.R_below HO171.out hb); have n3_ := zA (Kd.R_lower (Kd.R_new' (Kd.R_newM (M := fun k_ => (w.heap.size ≤ k_)) ho50 (below_size (by repeat ((with_reducible exact HB.out)))) (fun k_ h_ => h_)) (Kd.R_lt HO157.out)) (below_size (by repeat ((with_reducible exact HB.out))))); have n4_ := zA (IsS104.below (by repeat ((with_reducible exact HI154.out))) hb); have n5_ := zA (below_step (by repeat ((with_reducible exact HB.out))) hb); clear HO157; clear HO163; clear HO171; clear HI154; clear HB; have HO157 := n0_; have HO163 := n1_; have HO171 := n2_; have HO181 := n3_; have HI154 := n4_; have HB := n5_; clear n0_ n1_ n2_ n3_ n4_ n5_; clear hb ho50; obtain ⟨Ao51, co51, eo51⟩ := Kd.R_slice HO181.out; subst eo51) | ((with_reducible refine gate_callee (f := 57) rfl ?_); refine goesL_ (some 41) rfl rfl Try.func57 (by kernel_rfl) rfl #[.pointer (some ⟨g154, 0, none⟩), .slice Ao51 y179.length co51] rfl zM ?_; (with_reducible refine (spec_l01Pick.calls g154 t151 t177 t178 _ _ y179 t182 t183 t184 w _ ?side1 ?side2 ?side3 ?side4 ?side5 A37.out).mono ?_); (case side1 => repeat ((with_reducible exact HI154.out))); (case side2 => repeat ((with_reducible exact HB.out))); (case side3 => repeat (exact (Kd.R_reads' HO181.out).2.2)); (case side4 => exact (Kd.R_reads' HO181.out).2.1); (case side5 => exact far_slice (IsS104.own_ne HI154.out HO181.out (by decide))); rintro e w52 ⟨rfl, hi, hb, hk⟩; refine ⟨_, rfl, ?_⟩; replace HO157 := zA (Kd.R_mono (Kd.R_keep (IsS104.apart (show IsS104 w _ g154 t151 t177 t178 from by repeat ((with_reducible exact HI154.out))) zR (by decide)) hk (fun _ h => h.2)) (fun _ h => h.1)); replace HO163 := zA (Kd.N_mono (Kd.N_keep (Kd.N_mono (ok := fun k_ => (((((w.heap.size ≤ k_)) ∧ (some k_ ≠ (.slice Ao41 y155.length co41 : Value).ownBlock ∧ k_ ≠ g154)) ∧ some k_ ≠ (.slice (some ad175) t169.length co46 : Value).ownBlock) ∧ some k_ ≠ (.slice Ao51 y179.length co51 : Value).ownBlock)) (by exact HO163.out) (fun k_ hk_ => (⟨hk_, hk_.1.1.2.2⟩ : _ ∧ k_ ≠ g154))) hk (fun _ h => h.2)) (fun _ h => h.1)); replace HO171 := zA (Kd.R_mono (Kd.R_keep (IsS104.apart (show IsS104 w _ g154 t151 t177 t178 from by repeat ((with_reducible exact HI154.out))) zR (by decide)) hk (fun _ h => h.2)) (fun _ h => h.1)); replace HO181 := zA (Kd.R_mono (Kd.R_keep (IsS104.apart (show IsS104 w _ g154 t151 t177 t178 from by repeat ((with_reducible exact HI154.out))) zR (by decide)) hk (fun _ h => h.2)) (fun _ h => h.1)); replace HI154 := zA (hi); replace HB := zA (hb); (try clear hb); (try clear hb2); (try clear hk); (try clear hi)))
      go_ret3
      exact ⟨_, by rfl, by exact Kd.N_mono HO163.out (fun _ hk => hk.1.1.1), by repeat ((with_reducible exact HB.out))⟩
     ·rw [if_neg c36] at H
      have c36b0 : (t176 == 2) = false := beq_eq_false_iff_ne.mpr c36
      have c36b1 : (t176 != 2) = true := bne_iff_ne.mpr c36
      simp only [Option.some.injEq, Prod.mk.injEq] at H
      obtain ⟨rfl, rfl, rfl⟩ := H
      go_enter Try.func45, Try.ntmps45
      go_wp2_with (first | ((with_reducible refine gate_callee (f := 56) rfl ?_); refine goesL_ (some 11) rfl rfl Try.func56 (by kernel_rfl) rfl #[.slice A0 l0.length c0] rfl zM ?_; (with_reducible refine (spec_l01From.calls k _ _ l0 t151 t152 t153 w _ ?side1 ?side2 ?side3 A2.out).mono ?_); (case side1 => repeat ((with_reducible exact HB.out))); (case side2 => exact HR0.out); (case side3 => exact HC0.out); rintro e w53 ⟨g154, rfl, hi, hb, hb2⟩; refine ⟨_, rfl, ?_⟩; have HI154 := zA (hi); replace HB := zA (hb); (try clear hb); (try clear hb2); (try clear hk); (try clear hi)) | ((with_reducible refine gate_dst (N := 13) rfl ?_); refine Kd.R_lit (Kd.int .i64) _ 2 ?hg (N := 13) ?hd (xs := ([1, 2, 2, 3] : List Int)) (inner := [.int .i64 1, .int .i64 2, .int .i64 2, .int .i64 3]) (ok := fun _ => True) (okp := fun _ => True) ?hr ?hp (fun _ hk => hk) trivial (Below.refl _ _) (Nat.le_refl _) (by simp) ?_; (case hd => rfl); (case hg => rfl); (case hr => (go_simp; done)); (case hp => exact (Reps.one (show Kd.M (Kd.int .i64) _ _ _ 1 [.int .i64 1] from rfl) (Reps.one (show Kd.M (Kd.int .i64) _ _ _ 2 [.int .i64 2] from rfl) (Reps.one (show Kd.M (Kd.int .i64) _ _ _ 2 [.int .i64 2] from rfl) (Reps.one (show Kd.M (Kd.int .i64) _ _ _ 3 [.int .i64 3] from rfl) (Reps.none _ _)))))); intro v156 w54 ho55 hb hg_ hnew_; clear hg_ hnew_; (rw [← Ny155.out] at ho55); have n0_ := zA (Kd.R_lower (Kd.R_newM (M := fun k_ => (w.heap.size ≤ k_)) ho55 (below_size (by repeat ((with_reducible exact HB.out)))) (fun k_ h_ => h_)) (below_size (by repeat ((with_reducible exact HB.out))))); have n1_ := zA (IsS104.below (by repeat ((with_reducible exact HI154.out))) hb); have n2_ := zA (below_step (by repeat ((with_reducible exact HB.out))) hb); clear HI154; clear HB; have HO157 := n0_; have HI154 := n1_; have HB := n2_; clear n0_ n1_ n2_; clear hb ho55; obtain ⟨Ao56, co56, eo56⟩ := Kd.R_slice HO157.out; subst eo56) | ((with_reducible refine gate_callee (f := 57) rfl ?_); refine goesL_ (some 14) rfl rfl Try.func57 (by kernel_rfl) rfl #[.pointer (some ⟨g154, 0, none⟩), .slice Ao56 y155.length co56] rfl zM ?_; (with_reducible refine (spec_l01Pick.calls g154 t151 t152 t153 _ _ y155 t158 t159 t160 w _ ?side1 ?side2 ?side3 ?side4 ?side5 A3.out).mono ?_); (case side1 => repeat ((with_reducible exact HI154.out))); (case side2 => repeat ((with_reducible exact HB.out))); (case side3 => repeat (exact (Kd.R_reads' HO157.out).2.2)); (case side4 => exact (Kd.R_reads' HO157.out).2.1); (case side5 => exact far_slice (IsS104.own_ne HI154.out HO157.out (by decide))); rintro e w57 ⟨rfl, hi, hb, hk⟩; refine ⟨_, rfl, ?_⟩; replace HO157 := zA (Kd.R_mono (Kd.R_keep (IsS104.apart (show IsS104 w _ g154 t151 t152 t153 from by repeat ((with_reducible exact HI154.out))) zR (by decide)) hk (fun _ h => h.2)) (fun _ h => h.1)); replace HI154 := zA (hi); replace HB := zA (hb); (try clear hb); (try clear hb2); (try clear hk); (try clear hi)) | ((with_reducible refine gate_callee (f := 85) rfl ?_); refine goesL_ (some 17) rfl rfl Try.func85 (by kernel_rfl) rfl #[.pointer (some ⟨g154, 0, none⟩), .int .i64 t158] rfl zM ?_; (with_reducible refine (spec_l08Draw.calls g154 t151 t159 t160 t158 t161 t164 t165 w _ ?side1 ?side2 A4.out).mono ?_); (case side1 => repeat ((with_reducible exact HI154.out))); (case side2 => repeat ((with_reducible exact HB.out))); rintro e w58 ⟨v162, rfl, ho0, hi, hb, hk⟩; refine ⟨_, rfl, ?_⟩; have HO163 := zA (Kd.N_lower (Kd.N_mono (ok' := fun k_ => (w.heap.size ≤ k_) ∧ some k_ ≠ (.slice Ao56 y155.length co56 : Value).ownBlock ∧ k_ ≠ g154) ho0 (fun k_ hk_ => ⟨(Nat.le_trans (below_size (by repeat ((with_reducible exact HB.out)))) hk_), (Kd.fresh' (Kd.R_lt HO157.out) k_ hk_), (IsS104.fresh (by repeat ((with_reducible exact HI154.out))) k_ hk_)⟩)) (below_size (by repeat ((with_reducible exact HB.out))))); replace HO157 := zA (Kd.R_mono (Kd.R_keep (IsS104.apart (show IsS104 w _ g154 t151 t159 t160 from by repeat ((with_reducible exact HI154.out))) zR (by decide)) hk (fun _ h => h.2)) (fun _ h => h.1)); replace HI154 := zA (hi); replace HB := zA (hb); (try clear hb); (try clear hb2); (try clear hk); (try clear hi); (try clear ho0)) | ((with_reducible refine gate_callee (f := 67) rfl ?_); refine goesL_ (some 20) rfl rfl Try.func67 (by kernel_rfl) rfl #[.pointer (some ⟨g154, 0, none⟩), .int .i64 4] rfl zM ?_; (with_reducible refine (spec_l01Next.calls g154 t151 t164 t165 4 t166 t167 t168 w _ ?side1 ?side2 A5.out).mono ?_); (case side1 => repeat ((with_reducible exact HI154.out))); (case side2 => repeat ((with_reducible exact HB.out))); rintro e w59 ⟨rfl, hi, hb, hk⟩; refine ⟨_, rfl, ?_⟩; replace HO157 := zA (Kd.R_mono (Kd.R_keep (IsS104.apart (show IsS104 w _ g154 t151 t164 t165 from by repeat ((with_reducible exact HI154.out))) zR (by decide)) hk (fun _ h => h.2)) (fun _ h => h.1)); replace HO163 := zA (Kd.N_mono (Kd.N_keep (Kd.N_mono (ok := fun k_ => (((w.heap.size ≤ k_)) ∧ (some k_ ≠ (.slice Ao56 y155.length co56 : Value).ownBlock ∧ k_ ≠ g154))) (by exact HO163.out) (fun k_ hk_ => (⟨hk_, hk_.2.2⟩ : _ ∧ k_ ≠ g154))) hk (fun _ h => h.2)) (fun _ h => h.1)); replace HI154 := zA (hi); replace HB := zA (hb); (try clear hb); (try clear hb2); (try clear hk); (try clear hi)) | ((with_reducible refine gate_callee (f := 62) rfl ?_); refine goesL_ (some 21) rfl rfl Try.func62 (by kernel_rfl) rfl #[.int .i64 t158, .int .i64 t166] rfl zM ?_; (with_reducible refine (spec_l01Words.calls k t158 t166 t169 _ A6.out).mono ?_); rintro e w60 ⟨v170, rfl, ho0, hb⟩; refine ⟨_, rfl, ?_⟩; have n0_ := zA (Kd.R_below HO157.out hb); have n1_ := zA (Kd.N_elder' (by exact HO163.out) (Kd.R_base ho0) hb); have n2_ := zA (Kd.R_lower (Kd.R_newM (M := fun k_ => (w.heap.size ≤ k_)) ho0 (below_size (by repeat ((with_reducible exact HB.out)))) (fun k_ h_ => h_)) (below_size (by repeat ((with_reducible exact HB.out))))); have n3_ := zA (IsS104.below (by repeat ((with_reducible exact HI154.out))) hb); have n4_ := zA (below_step (by repeat ((with_reducible exact HB.out))) hb); clear HO157; clear HO163; clear HI154; clear HB; have HO157 := n0_; have HO163 := n1_; have HO171 := n2_; have HI154 := n3_; have HB := n4_; clear n0_ n1_ n2_ n3_ n4_; (try clear hb); (try clear hb2); (try clear hk); (try clear hi); (try clear ho0); obtain ⟨Ao61, co61, eo61⟩ := Kd.R_slice HO171.out; subst eo61) | ((with_reducible refine gate_callee (f := 67) rfl ?_); refine goesL_ (some 26) rfl rfl Try.func67 (by kernel_rfl) rfl #[.pointer (some ⟨g154, 0, none⟩), .int .i64 (t169.length : Int)] rfl zM ?_; (with_reducible refine (spec_l01Next.calls g154 t151 t167 t168 (t169.length : Int) t172 t173 t174 w _ ?side1 ?side2 A7.out).mono ?_); (case side1 => repeat ((with_reducible exact HI154.out))); (case side2 => repeat ((with_reducible exact HB.out))); rintro e w62 ⟨rfl, hi, hb, hk⟩; refine ⟨_, rfl, ?_⟩; replace HO157 := zA (Kd.R_mono (Kd.R_keep (IsS104.apart (show IsS104 w _ g154 t151 t167 t168 from by repeat ((with_reducible exact HI154.out))) zR (by decide)) hk (fun _ h => h.2)) (fun _ h => h.1)); replace HO163 := zA (Kd.N_mono (Kd.N_keep (Kd.N_mono (ok := fun k_ => ((((w.heap.size ≤ k_)) ∧ (some k_ ≠ (.slice Ao56 y155.length co56 : Value).ownBlock ∧ k_ ≠ g154)) ∧ some k_ ≠ (.slice Ao61 t169.length co61 : Value).ownBlock)) (by exact HO163.out) (fun k_ hk_ => (⟨hk_, hk_.1.2.2⟩ : _ ∧ k_ ≠ g154))) hk (fun _ h => h.2)) (fun _ h => h.1)); replace HO171 := zA (Kd.R_mono (Kd.R_keep (IsS104.apart (show IsS104 w _ g154 t151 t167 t168 from by repeat ((with_reducible exact HI154.out))) zR (by decide)) hk (fun _ h => h.2)) (fun _ h => h.1)); replace HI154 := zA (hi); replace HB := zA (hb); (try clear hb); (try clear hb2); (try clear hk); (try clear hi); have p175 : 0 ≤ (t172 : Int) := zD; have q175 : t172 < (t169.length : Int) := zD; obtain ⟨ad175, e175, hx175_0⟩ := Kd.at_string (Kd.R_reads' HO171.out).2.2 t172 p175 q175; cases e175; replace p175 := eq_true p175; replace q175 := eq_true q175) | ((with_reducible refine gate_callee (f := 67) rfl ?_); refine goesL_ (some 30) rfl rfl Try.func67 (by kernel_rfl) rfl #[.pointer (some ⟨g154, 0, none⟩), .int .i64 30] rfl zM ?_; (with_reducible refine (spec_l01Next.calls g154 t151 t173 t174 30 t176 t177 t178 w _ ?side1 ?side2 A10.out).mono ?_); (case side1 => repeat ((with_reducible exact HI154.out))); (case side2 => repeat ((with_reducible exact HB.out))); rintro e w63 ⟨rfl, hi, hb, hk⟩; refine ⟨_, rfl, ?_⟩; replace HO157 := zA (Kd.R_mono (Kd.R_keep (IsS104.apart (show IsS104 w _ g154 t151 t173 t174 from by repeat ((with_reducible exact HI154.out))) zR (by decide)) hk (fun _ h => h.2)) (fun _ h => h.1)); replace HO163 := zA (Kd.N_mono (Kd.N_keep (Kd.N_mono (ok := fun k_ => ((((w.heap.size ≤ k_)) ∧ (some k_ ≠ (.slice Ao56 y155.length co56 : Value).ownBlock ∧ k_ ≠ g154)) ∧ some k_ ≠ (.slice (some ad175) t169.length co61 : Value).ownBlock)) (by exact HO163.out) (fun k_ hk_ => (⟨hk_, hk_.1.2.2⟩ : _ ∧ k_ ≠ g154))) hk (fun _ h => h.2)) (fun _ h => h.1)); replace HO171 := zA (Kd.R_mono (Kd.R_keep (IsS104.apart (show IsS104 w _ g154 t151 t173 t174 from by repeat ((with_reducible exact HI154.out))) zR (by decide)) hk (fun _ h => h.2)) (fun _ h => h.1)); replace HI154 := zA (hi); replace HB := zA (hb); (try clear hb); (try clear hb2); (try clear hk); (try clear hi)))
      go_ret3
      exact ⟨_, by rfl, by exact Kd.N_mono HO163.out (fun _ hk => hk.1.1), by repeat ((with_reducible exact HB.out))⟩
  ·rw [if_neg c9] at H
   exact absurd H (by simp)
 ·rw [if_neg c8] at H
  exact absurd H (by simp)


/-! ### spec_DrawProductOfWord: function 7 -/
def spec_DrawProductOfWord.f (k : Nat) (l0 : List Int) : Option (Int × (List (List (List Int))) × ByteArray) := (spec_l08With.f k l0).bind fun bt185 => (some (bt185.1, bt185.2.1, bt185.2.2))
theorem spec_DrawProductOfWord.mono : ∀ a0 k, LeO (spec_DrawProductOfWord.f k a0) (spec_DrawProductOfWord.f (k + 1) a0) := by
 intro a0 k
 unfold spec_DrawProductOfWord.f
 repeat' first
  | (with_reducible exact spec_l08With.mono _ _)
  | (with_reducible exact LeO.refl _)
  | (with_reducible exact LeO.none _)
  | (with_reducible refine LeO.ite ?_ ?_)
  | (with_reducible refine LeO.bind ?_ (fun _ => ?_))
theorem spec_DrawProductOfWord.calls (k : Nat) (A0 : Option Addr) (c0 : Nat) (l0 : List Int) (r1 : Int) (r2 : List (List (List Int))) (r3 : ByteArray) (w : World) (hr0 : Kd.C (Kd.int .u8) w A0 l0.length l0) (hc0 : l0.length ≤ c0) (h : spec_DrawProductOfWord.f k l0 = some (r1, r2, r3)) :
 Calls Try.prog 7 #[.slice A0 l0.length c0] w fun e w' => ∃ v1_ : Value, e = .returned (.tuple #[.int .i64 r1, v1_, .string r3]) ∧ Kd.N (Kd.slice 45 (Kd.slice 2 (Kd.int .i64))) 27 w' w.heap.size (fun k_ => (w.heap.size ≤ k_)) v1_ r2 ∧ Below w.heap.size w w' := by
 have HR0 := zA hr0
 have HC0 := zA hc0
 clear hr0 hc0
 have HB := zA (Below.refl w.heap.size w)
 have H : ((spec_l08With.f k l0).bind fun bt185 => (some (bt185.1, bt185.2.1, bt185.2.2))) = some (r1, r2, r3) := h
 clear h
 replace H := Option.bind_eq_some_iff.mp H
 obtain ⟨⟨t185, t186, t189⟩, A20, H⟩ := H
 replace H : (some (t185, t186, t189)) = some (r1, r2, r3) := H
 have A2 := zA A20
 clear A20
 simp only [Option.some.injEq, Prod.mk.injEq] at H
 obtain ⟨rfl, rfl, rfl⟩ := H
 go_enter Try.func7, Try.ntmps7
 go_wp2_with (first | ((with_reducible refine gate_callee (f := 45) rfl ?_); refine goesL_ (some 6) rfl rfl Try.func45 (by kernel_rfl) rfl #[.slice A0 l0.length c0] rfl zM ?_; (with_reducible refine (spec_l08With.calls k _ _ l0 t185 t186 t189 _ ?side1 ?side2 A2.out).mono ?_); (case side1 => repeat (exact HR0.out)); (case side2 => exact HC0.out); rintro e w3 ⟨v187, rfl, ho0, hb⟩; refine ⟨_, rfl, ?_⟩; have HO188 := zA (Kd.N_lower (Kd.N_mono (ok' := fun k_ => (w.heap.size ≤ k_)) ho0 (fun k_ hk_ => (Nat.le_trans (below_size zB) hk_))) (below_size zB)); replace HB := zA (below_step zB hb); (try clear hb); (try clear hb2); (try clear hk); (try clear hi); (try clear ho0)))
 go_ret3
 exact ⟨_, by rfl, by exact HO188.out, zB⟩


/-! ### impl_within: function 52 -/
def impl_within.f (a0 : Int) (a1 : Int) (a2 : Int) : Option (Bool) := if a0 ≥ a1 then (some (decide (a0 ≤ a2))) else (some false)
theorem impl_within.calls (a0 : Int) (a1 : Int) (a2 : Int) (r : Bool) (w : World) (h : impl_within.f a0 a1 a2 = some r) :
 Calls Try.prog 52 #[.int .i64 a0, .int .i64 a1, .int .i64 a2] w fun e w' => e = .returned (.bool r) ∧ Drawn0 w w' := by
 have H : (if a0 ≥ a1 then (some (decide (a0 ≤ a2))) else (some false)) = some r := h
 clear h
 by_cases c4 : a0 ≥ a1
 ·rw [if_pos c4] at H
  have c4b0 : decide (a1 ≤ a0) = true := decide_eq_true c4
  clear c4
  obtain rfl := Option.some.inj H
  go_enter Try.func52, Try.ntmps52
  go_wp2
  go_ret
  exact ⟨by rfl, by repeat (exact Drawn0.refl _)⟩
 ·rw [if_neg c4] at H
  have c4b0 : decide (a1 ≤ a0) = false := decide_eq_false c4
  clear c4
  obtain rfl := Option.some.inj H
  go_enter Try.func52, Try.ntmps52
  go_wp2
  go_ret
  exact ⟨by rfl, by repeat (exact Drawn0.refl _)⟩


/-! ### impl_areLetters: function 51 -/
def impl_areLetters.f (a0 : Int) : Option (Bool) := (impl_within.f a0 1 3).bind fun t190 => (some t190)
theorem impl_areLetters.calls (a0 : Int) (r : Bool) (w : World) (h : impl_areLetters.f a0 = some r) :
 Calls Try.prog 51 #[.int .i64 a0] w fun e w' => e = .returned (.bool r) ∧ Drawn0 w w' := by
 have H : ((impl_within.f a0 1 3).bind fun t190 => (some t190)) = some r := h
 clear h
 replace H := Option.bind_eq_some_iff.mp H
 obtain ⟨t190, A20, H⟩ := H
 replace H : (some t190) = some r := H
 have A2 := zA A20
 clear A20
 obtain rfl := Option.some.inj H
 go_enter Try.func51, Try.ntmps51
 go_wp2_with (first | ((with_reducible refine gate_callee (f := 52) rfl ?_); refine goesL_ (some 4) rfl rfl Try.func52 (by kernel_rfl) rfl #[.int .i64 a0, .int .i64 1, .int .i64 3] rfl zM ?_; (with_reducible refine (impl_within.calls a0 1 3 t190 _ A2.out).mono ?_); rintro e w' ⟨rfl, ⟨nd, rfl⟩⟩; refine ⟨_, rfl, ?_⟩))
 go_ret
 exact ⟨by rfl, by repeat (first | exact Drawn0.refl _ | apply Drawn0.step)⟩

-- NOT PRINTED: function 93 (slices_IndexFunc_int64_int64_93)

-- NOT PRINTED: function 53 (slices_ContainsFunc_int64_int64_53)

-- NOT PRINTED: function 115 (slices_IndexFunc_int64_int64_115)

-- NOT PRINTED: function 101 (slices_ContainsFunc_int64_int64_101)


/-! ### impl_allUpTo: function 90, by hand -/
set_option maxHeartbeats 1000000 in
theorem impl_allUpTo_ask (m x : Int) (B : Nat) (W : World) (hc : W.cell? ⟨B, 0, none⟩ = some (.int .i64 m)) :
 Calls Try.prog 113 #[.int .i64 x, .pointer (some ⟨B, 0, none⟩)] W fun e w' => e = .returned (.bool (!(Hand.upToB x m))) ∧ Drawn0 W w' := by
 go_enter Try.func113, Try.ntmps113
 go_wp2_with (go_at_call 82; refine (Hand.upTo_calls x m _).mono ?_; rintro e w' ⟨rfl, nd, rfl⟩)
 go_ret
 exact ⟨rfl, by repeat (first | exact Drawn0.refl _ | apply Drawn0.step)⟩
/-- Are all numbers at most m in absolute value? -/
def impl_allUpTo.f (l0 : List Int) (a1 : Int) : Option Bool := some (!(l0.any fun x => !(Hand.upToB x a1)))
set_option maxHeartbeats 1000000 in
theorem impl_allUpTo.calls (A0 : Option Addr) (c0 : Nat) (l0 : List Int) (a1 : Int) (r : Bool) (w : World) (hr0 : Kd.C (Kd.int .i64) w A0 l0.length l0) (hc0 : l0.length ≤ c0) (h : impl_allUpTo.f l0 a1 = some r) :
 Calls Try.prog 90 #[.slice A0 l0.length c0, .int .i64 a1] w fun e w' => e = .returned (.bool r) ∧ Below w.heap.size w w' := by
 have HR := zA hr0
 obtain rfl := Option.some.inj h
 clear hr0 hc0 h
 have eg := enters_of Try.func113 (by kernel_rfl) rfl
 go_enter Try.func90, Try.ntmps90
 go_wp2_with (go_at_call 101; refine (Hand.containsFunc_ints 113 #[.pointer (some ⟨w.heap.size, 0, none⟩)] eg (fun x => !(Hand.upToB x a1)) A0 c0 l0 _ (fun x q => impl_allUpTo_ask a1 x w.heap.size _ (by simp)) (Kd.C_alloc HR.out _)).mono ?_; rintro e w' ⟨rfl, nd, rfl⟩)
 go_ret
 exact ⟨rfl, by repeat (first | exact Below.refl _ _ | apply below_alloc | apply pw_below_drewN)⟩


/-! ### impl_AreTables: function 11, by hand -/
set_option maxHeartbeats 2000000 in
theorem impl_AreTables_row (m : Int) (B : Nat) (A : Option Addr) (c : Nat) (x : List Int) (W : World) (hc : W.cell? ⟨B, 0, none⟩ = some (.int .i64 m)) (hr : (Kd.int .i64).C W A x.length x) (hx : x.length ≤ c) :
 Calls Try.prog 94 #[.slice A x.length c, .pointer (some ⟨B, 0, none⟩)] W fun e w' => e = .returned (.bool (decide ((x.length : Int) ≠ m) || !(!(x.any fun n => !(Hand.upToB n 1000))))) ∧ Below W.heap.size W w' := by
 have HR := zA hr
 have HX := zA hx
 have hbig : x.length ≤ 9223372036854775807 := Kd.C_max hr
 clear hr hx
 by_cases hm : (x.length : Int) = m
 ·subst hm
  rw [show (decide ((x.length : Int) ≠ (x.length : Int)) || !(!(x.any fun n => !(Hand.upToB n 1000)))) = !(!(x.any fun n => !(Hand.upToB n 1000))) from by simp]
  generalize hQ : (!(x.any fun n => !(Hand.upToB n 1000))) = Q
  have HA := zA (show impl_allUpTo.f x 1000 = some Q from by rw [← hQ]; rfl)
  clear hQ
  go_enter Try.func94, Try.ntmps94
  go_wp2_with (go_at_call 90; refine (impl_allUpTo.calls A c x 1000 Q _ HR.out HX.out HA.out).mono ?_; rintro e w' ⟨rfl, hb⟩)
  go_ret
  exact ⟨rfl, hb⟩
 ·rw [show (decide ((x.length : Int) ≠ m) || !(!(x.any fun n => !(Hand.upToB n 1000)))) = true from by simp [hm]]
  have b0 : ((x.length : Int) == m) = false := beq_eq_false_iff_ne.mpr hm
  have b1 : ((x.length : Int) != m) = true := bne_iff_ne.mpr hm
  clear hm
  go_enter Try.func94, Try.ntmps94
  go_wp2
  go_ret
  exact ⟨rfl, Below.refl _ _⟩
/-- Has a matrix n rows of n small numbers? -/
def isMat (n : Int) (x : List (List Int)) : Bool := decide ((x.length : Int) = n) && !(x.any fun r => decide ((r.length : Int) ≠ n) || !(!(r.any fun q => !(Hand.upToB q 1000))))
set_option maxHeartbeats 2000000 in
theorem impl_AreTables_mat (m : Int) (A : Option Addr) (c : Nat) (x : List (List Int)) (W : World) (hr : Kd.C (Kd.slice 2 (Kd.int .i64)) W A x.length x) (hx : x.length ≤ c) :
 Calls Try.prog 55 #[.slice A x.length c, .int .i64 m] W fun e w' => e = .returned (.bool (isMat m x)) ∧ Below W.heap.size W w' := by
 have HR := zA hr
 have hbig : x.length ≤ 9223372036854775807 := Kd.C_max hr
 clear hr hx
 unfold isMat
 have eg := enters_of Try.func94 (by kernel_rfl) rfl
 generalize hQ : (x.any fun r => decide ((r.length : Int) ≠ m) || !(!(r.any fun q => !(Hand.upToB q 1000)))) = Q
 have HQ := zA hQ
 clear hQ
 by_cases hm : (x.length : Int) = m
 ·subst hm
  rw [show (decide ((x.length : Int) = (x.length : Int)) && !Q) = !Q from by simp]
  go_enter Try.func55, Try.ntmps55
  go_wp2_with (go_at_call 88; refine (Hand.containsFunc_rows 94 #[.pointer (some ⟨W.heap.size, 0, none⟩)] eg (fun r => decide ((r.length : Int) ≠ (x.length : Int)) || !(!(r.any fun q => !(Hand.upToB q 1000)))) A c x _ (fun A c y W' hb hC hx => impl_AreTables_row (x.length : Int) W.heap.size A c y W' (pw_cell_below hb (by simp)) hC hx) (Kd.C_alloc HR.out _)).mono ?_; rw [HQ.out]; rintro e w' ⟨rfl, hb⟩)
  go_ret
  exact ⟨rfl, below_step (by repeat (first | exact Below.refl _ _ | apply below_alloc)) hb⟩
 ·rw [show (decide ((x.length : Int) = m) && !Q) = false from by simp [hm]]
  have b0 : ((x.length : Int) == m) = false := beq_eq_false_iff_ne.mpr hm
  have b1 : ((x.length : Int) != m) = true := bne_iff_ne.mpr hm
  clear hm
  go_enter Try.func55, Try.ntmps55
  go_wp2
  go_ret
  exact ⟨rfl, by repeat (first | exact Below.refl _ _ | apply below_alloc)⟩
set_option maxHeartbeats 2000000 in
theorem impl_AreTables_ask (m : Int) (B : Nat) (A : Option Addr) (c : Nat) (x : List (List Int)) (W : World) (hc : W.cell? ⟨B, 0, none⟩ = some (.int .i64 m)) (hr : Kd.C (Kd.slice 2 (Kd.int .i64)) W A x.length x) (hx : x.length ≤ c) :
 Calls Try.prog 54 #[.slice A x.length c, .pointer (some ⟨B, 0, none⟩)] W fun e w' => e = .returned (.bool (!(isMat m x))) ∧ Below W.heap.size W w' := by
 have HR := zA hr
 have HX := zA hx
 clear hr hx
 go_enter Try.func54, Try.ntmps54
 go_wp2_with (go_at_call 55; refine (impl_AreTables_mat m A c x _ HR.out HX.out).mono ?_; rintro e w' ⟨rfl, hb⟩)
 go_ret
 exact ⟨rfl, hb⟩
theorem impl_AreTables_letters (d : Int) : impl_areLetters.f d = some (decide (1 ≤ d) && decide (d ≤ 3)) := by
 unfold impl_areLetters.f impl_within.f
 by_cases h : 1 ≤ d <;> simp [h]
/-- How many rows the first matrix has. -/
def dimOf (l : List (List (List Int))) : Int := ((l.getD 0 []).length : Int)
/-- Are these tables for the letters? -/
def impl_AreTables.f (a0 : Int) (l1 : List (List (List Int))) : Option Bool := some ((decide (1 ≤ a0) && decide (a0 ≤ 3)) && decide ((l1.length : Int) = a0) && (decide (1 ≤ dimOf l1) && decide (dimOf l1 ≤ 6)) && !(l1.any fun x => !(isMat (dimOf l1) x)))
set_option maxHeartbeats 4000000 in
theorem impl_AreTables.calls (a0 : Int) (A1 : Option Addr) (c1 : Nat) (l1 : List (List (List Int))) (r : Bool) (w : World) (hr1 : Kd.C (Kd.slice 45 (Kd.slice 2 (Kd.int .i64))) w A1 l1.length l1) (hc1 : l1.length ≤ c1) (h : impl_AreTables.f a0 l1 = some r) :
 Calls Try.prog 11 #[.int .i64 a0, .slice A1 l1.length c1] w fun e w' => e = .returned (.bool r) ∧ Below w.heap.size w w' := by
 have HR := zA hr1
 have HA := zA (impl_AreTables_letters a0)
 have hbig : l1.length ≤ 9223372036854775807 := Kd.C_max hr1
 obtain rfl := Option.some.inj h
 clear hr1 hc1 h
 have hd1 : (decide (1 ≤ a0) && decide (a0 ≤ 3)) = true → 1 ≤ a0 := by intro h; simp at h; omega
 generalize hL : (decide (1 ≤ a0) && decide (a0 ≤ 3)) = L at HA hd1
 clear hL
 have eg := enters_of Try.func54 (by kernel_rfl) rfl
 generalize hQ : (l1.any fun x => !(isMat (dimOf l1) x)) = Q
 have HQ := zA hQ
 clear hQ
 cases L with
 | false =>
  clear hd1
  rw [show (false && decide ((l1.length : Int) = a0) && (decide (1 ≤ dimOf l1) && decide (dimOf l1 ≤ 6)) && !Q) = false from rfl]
  go_enter Try.func11, Try.ntmps11
  go_wp2_with (go_at_call 51; refine (impl_areLetters.calls a0 false _ HA.out).mono ?_; rintro e w' ⟨rfl, nd, rfl⟩)
  go_ret
  exact ⟨rfl, by repeat (first | exact Below.refl _ _ | apply pw_below_drewN)⟩
 | true =>
  have ha := hd1 rfl
  clear hd1
  by_cases hl : (l1.length : Int) = a0
  ·subst hl
   have hp : 0 < l1.length := by omega
   clear ha
   obtain ⟨ad, B0, c0, e1, hcell, hc0, hC0⟩ := Hand.at_rows3 HR.out 0 (by omega) (by omega)
   cases e1
   have hdim : (Hand.rdR3 l1 0).length = (l1.getD 0 []).length := rfl
   rw [hdim] at hcell hc0 hC0
   have hbig0 := Kd.C_max hC0
   have hgd : dimOf l1 = ((l1.getD 0 []).length : Int) := rfl
   rw [hgd]
   have HGD := zA hgd
   simp only [Int.toNat_zero] at hcell
   rw [show ad.add 0 = ad from by exact Addr.add_zero' ad] at hcell
   rw [show (true && decide ((l1.length : Int) = (l1.length : Int)) && (decide (1 ≤ ((l1.getD 0 []).length : Int)) && decide (((l1.getD 0 []).length : Int) ≤ 6)) && !Q) = ((decide (1 ≤ ((l1.getD 0 []).length : Int)) && decide (((l1.getD 0 []).length : Int) ≤ 6)) && !Q) from by simp]
   clear hgd hdim hC0 hc0
   generalize l1.getD 0 [] = x0 at *
   generalize hW : (decide (1 ≤ (x0.length : Int)) && decide ((x0.length : Int) ≤ 6)) = Wi
   have HW := zA hW
   clear hW
   cases Wi with
   | false =>
    rw [show (false && !Q) = false from rfl]
    go_enter Try.func11, Try.ntmps11
    go_wp2_with (first | (go_at_call 51; refine (impl_areLetters.calls (l1.length : Int) true _ HA.out).mono ?_; rintro e w1 ⟨rfl, hd1⟩; have hcell1 := pw_cell_below hd1.below hcell; have HR1 := zA (Kd.C_below HR.out hd1.below); have B1 := zA hd1.below; clear hcell hd1) | (go_at_call 52; refine (Hand.within_calls (x0.length : Int) 1 6 _).mono ?_; rw [HW.out]; rintro e w' ⟨rfl, nd, rfl⟩))
    go_ret
    exact ⟨rfl, by repeat (first | exact B1.out | apply below_alloc | apply pw_below_drewN)⟩
   | true =>
    rw [show (true && !Q) = !Q from rfl]
    go_enter Try.func11, Try.ntmps11
    go_wp2_with (first | (go_at_call 51; refine (impl_areLetters.calls (l1.length : Int) true _ HA.out).mono ?_; rintro e w1 ⟨rfl, hd1⟩; have hcell1 := pw_cell_below hd1.below hcell; have HR1 := zA (Kd.C_below HR.out hd1.below); have B1 := zA hd1.below; clear hcell hd1) | (go_at_call 52; refine (Hand.within_calls (x0.length : Int) 1 6 _).mono ?_; rw [HW.out]; rintro e w' ⟨rfl, nd, rfl⟩) | (go_at_call 53; refine (Hand.containsFunc_rows3 54 #[.pointer (some ⟨w1.heap.size, 0, none⟩)] eg (fun x => !(isMat (x0.length : Int) x)) (some ad) c1 l1 _ (fun A c y W' hb hC hx => impl_AreTables_ask (x0.length : Int) w1.heap.size A c y W' (pw_cell_below hb (by simp)) hC hx) (by repeat (first | exact HR1.out | (with_reducible refine Kd.C_alloc ?_ _) | (with_reducible refine Kd.C_drewN ?_ _)))).mono ?_; rw [← HGD.out, HQ.out]; rintro e w' ⟨rfl, hb⟩))
    go_ret
    exact ⟨rfl, below_step (by repeat (first | exact B1.out | apply below_alloc | apply pw_below_drewN)) hb⟩
  ·rw [show (true && decide ((l1.length : Int) = a0) && (decide (1 ≤ dimOf l1) && decide (dimOf l1 ≤ 6)) && !Q) = false from by simp [hl]]
   have b0 : ((l1.length : Int) == a0) = false := beq_eq_false_iff_ne.mpr hl
   have b1 : ((l1.length : Int) != a0) = true := bne_iff_ne.mpr hl
   clear hl
   go_enter Try.func11, Try.ntmps11
   go_wp2_with (go_at_call 51; refine (impl_areLetters.calls a0 true _ HA.out).mono ?_; rintro e w' ⟨rfl, nd, rfl⟩)
   go_ret
   exact ⟨rfl, by repeat (first | exact Below.refl _ _ | apply pw_below_drewN)⟩


/-! ### impl_isWord: function 46 -/
def impl_isWord.l0 : Nat → Int → ByteArray → Int → Int → Int → Option (Bool)
 | 0, _, _, _, _, _ => none
 | k + 1, x0, x1, x2, x9, x10 => if x10 < x9 then (if 0 ≤ x10 then (if x10 < (x1.size : Int) then (if (wrap64 (bt x1 x10)) < 48 then (some false) else (if (wrap64 (bt x1 x10)) ≥ (wrap64 (48 + x0)) then (some false) else (impl_isWord.l0 k x0 x1 x2 x9 (wrap64 (x10 + 1))))) else (none)) else (none)) else (some (decide ((x1.size : Int) ≤ x2)))
def impl_isWord.f (k : Nat) (a0 : Int) (a1 : ByteArray) (a2 : Int) : Option (Bool) := impl_isWord.l0 k a0 a1 a2 (a1.size : Int) 0
theorem impl_isWord.mono_l : ∀ k, (∀ y0 y1 y2 y3 y4, LeO (impl_isWord.l0 k y0 y1 y2 y3 y4) (impl_isWord.l0 (k + 1) y0 y1 y2 y3 y4))
 | 0 => fun _ _ _ _ _ r h => by simp [impl_isWord.l0] at h
 | k + 1 => by
  have ih0 := impl_isWord.mono_l k
  ·intro y0 y1 y2 y3 y4
   unfold impl_isWord.l0
   repeat' first
   | (with_reducible exact ih0 _ _ _ _ _)
   | (with_reducible exact LeO.refl _)
   | (with_reducible exact LeO.none _)
   | (with_reducible refine LeO.ite ?_ ?_)
   | (with_reducible refine LeO.bind ?_ (fun _ => ?_))
theorem impl_isWord.mono : ∀ a0 a1 a2 k, LeO (impl_isWord.f k a0 a1 a2) (impl_isWord.f (k + 1) a0 a1 a2) := by
 intro a0 a1 a2 k
 have ih0 := impl_isWord.mono_l k
 unfold impl_isWord.f
 repeat' first
  | (with_reducible exact ih0 _ _ _ _ _)
  | (with_reducible exact LeO.refl _)
  | (with_reducible exact LeO.none _)
  | (with_reducible refine LeO.ite ?_ ?_)
  | (with_reducible refine LeO.bind ?_ (fun _ => ?_))
theorem impl_isWord.calls (k : Nat) (a0 : Int) (a1 : ByteArray) (a2 : Int) (r : Bool) (w : World) (h : impl_isWord.f k a0 a1 a2 = some r) :
 Calls Try.prog 46 #[.int .i64 a0, .string a1, .int .i64 a2] w fun e w' => e = .returned (.bool r) ∧ Drawn0 w w' := by
 have H : (impl_isWord.l0 k a0 a1 a2 (a1.size : Int) 0) = some r := h
 clear h
 have H' := zA H
 clear H
 go_enter Try.func46, Try.ntmps46
 go_wp2
 go_loopg [10] k (fun kq v10 w' => ∃ (x10_1 : Int), v10 = .int .i64 x10_1 ∧ Aside0 (impl_isWord.l0 kq a0 a1 a2 (a1.size : Int) x10_1 = some r) ∧ Aside0 (kq ≤ k) ∧ Drawn0 w w')
 case atStart => exact ⟨(0), (by rfl), H', ⟨Nat.le_refl _⟩, by repeat (exact Drawn0.refl _)⟩
 case round =>
  clear H'
  obtain ⟨x10_1, rfl, HA, HK1, ⟨m1, rfl⟩⟩ := hrel
  cases gk with
  | zero => exact absurd HA.out (by simp [impl_isWord.l0])
  | succ k1 =>
   have H := HA.out
   clear HA
   simp only [impl_isWord.l0] at H
   by_cases c4 : x10_1 < (a1.size : Int)
   ·rw [if_pos c4] at H
    have c4b0 : decide (x10_1 < (a1.size : Int)) = true := decide_eq_true c4
    clear c4
    by_cases c5 : 0 ≤ x10_1
    ·rw [if_pos c5] at H
     have c5b0 : decide (0 ≤ x10_1) = true := decide_eq_true c5
     clear c5
     by_cases c6 : x10_1 < (a1.size : Int)
     ·rw [if_pos c6] at H
      have c6b0 : decide (x10_1 < (a1.size : Int)) = true := decide_eq_true c6
      clear c6
      by_cases c8 : (wrap64 (bt a1 x10_1)) < 48
      ·rw [if_pos c8] at H
       have c8b0 : decide ((wrap64 (bt a1 x10_1)) < 48) = true := decide_eq_true c8
       clear c8
       obtain rfl := Option.some.inj H
       have p7 : 0 ≤ (x10_1 : Int) := zD
       have q7 : x10_1 < (a1.size : Int) := zD
       have hx7 := bt_at a1 x10_1
       replace p7 := eq_true p7
       replace q7 := eq_true q7
       go_wp2
       go_ret
       exact ⟨by rfl, by repeat (first | exact Drawn0.refl _ | apply Drawn0.step)⟩
      ·rw [if_neg c8] at H
       have c8b0 : decide ((wrap64 (bt a1 x10_1)) < 48) = false := decide_eq_false c8
       clear c8
       by_cases c10 : (wrap64 (bt a1 x10_1)) ≥ (wrap64 (48 + a0))
       ·rw [if_pos c10] at H
        have c10b0 : decide ((wrap64 (48 + a0)) ≤ (wrap64 (bt a1 x10_1))) = true := decide_eq_true c10
        clear c10
        obtain rfl := Option.some.inj H
        have p7 : 0 ≤ (x10_1 : Int) := zD
        have q7 : x10_1 < (a1.size : Int) := zD
        have hx7 := bt_at a1 x10_1
        replace p7 := eq_true p7
        replace q7 := eq_true q7
        have p9 : 0 ≤ (x10_1 : Int) := zD
        have q9 : x10_1 < (a1.size : Int) := zD
        have hx9 := bt_at a1 x10_1
        replace p9 := eq_true p9
        replace q9 := eq_true q9
        go_wp2
        go_ret
        exact ⟨by rfl, by repeat (first | exact Drawn0.refl _ | apply Drawn0.step)⟩
       ·rw [if_neg c10] at H
        have c10b0 : decide ((wrap64 (48 + a0)) ≤ (wrap64 (bt a1 x10_1))) = false := decide_eq_false c10
        clear c10
        have H' := zA H
        clear H
        have p7 : 0 ≤ (x10_1 : Int) := zD
        have q7 : x10_1 < (a1.size : Int) := zD
        have hx7 := bt_at a1 x10_1
        replace p7 := eq_true p7
        replace q7 := eq_true q7
        have p9 : 0 ≤ (x10_1 : Int) := zD
        have q9 : x10_1 < (a1.size : Int) := zD
        have hx9 := bt_at a1 x10_1
        replace p9 := eq_true p9
        replace q9 := eq_true q9
        go_wp2
        go_roundg k1
        case measure => have := HK1.out; omega
        case rel => exact ⟨(wrap64 (x10_1 + 1)), (by rfl), H', ⟨by have := HK1.out; omega⟩, by repeat (first | exact Drawn0.refl _ | apply Drawn0.step)⟩
     ·rw [if_neg c6] at H
      exact absurd H (by simp)
    ·rw [if_neg c5] at H
     exact absurd H (by simp)
   ·rw [if_neg c4] at H
    have c4b0 : decide (x10_1 < (a1.size : Int)) = false := decide_eq_false c4
    clear c4
    obtain rfl := Option.some.inj H
    go_wp2
    go_ret
    exact ⟨by rfl, by repeat (first | exact Drawn0.refl _ | apply Drawn0.step)⟩


/-! ### impl_square: function 86 -/
def impl_square.l0 : Nat → Int → List (List Int) → Int → Int → Option ((List (List Int)))
 | 0, _, _, _, _ => none
 | k + 1, x0, x3, x8, x9 => if x9 < x8 then (if 0 ≤ x0 then (if (x0 : Int).toNat ≤ 35184372088832 then (if 0 ≤ x9 then (if x9 < (x3.length : Int) then (impl_square.l0 k x0 (x3.set (x9 : Int).toNat (List.replicate (x0 : Int).toNat 0)) x8 (wrap64 (x9 + 1))) else (none)) else (none)) else (none)) else (none)) else (some x3)
def impl_square.f (k : Nat) (a0 : Int) : Option ((List (List Int))) := if 0 ≤ a0 then (if (a0 : Int).toNat ≤ 11728124029610 then ((some (List.replicate (a0 : Int).toNat [] : List (List Int))).bind fun y205 => (impl_square.l0 k a0 y205 (y205.length : Int) 0)) else (none)) else (none)
theorem impl_square.mono_l : ∀ k, (∀ y0 y1 y2 y3, LeO (impl_square.l0 k y0 y1 y2 y3) (impl_square.l0 (k + 1) y0 y1 y2 y3))
 | 0 => fun _ _ _ _ r h => by simp [impl_square.l0] at h
 | k + 1 => by
  have ih0 := impl_square.mono_l k
  ·intro y0 y1 y2 y3
   unfold impl_square.l0
   repeat' first
   | (with_reducible exact ih0 _ _ _ _)
   | (with_reducible exact LeO.refl _)
   | (with_reducible exact LeO.none _)
   | (with_reducible refine LeO.ite ?_ ?_)
   | (with_reducible refine LeO.bind ?_ (fun _ => ?_))
theorem impl_square.mono : ∀ a0 k, LeO (impl_square.f k a0) (impl_square.f (k + 1) a0) := by
 intro a0 k
 have ih0 := impl_square.mono_l k
 unfold impl_square.f
 repeat' first
  | (with_reducible exact ih0 _ _ _ _)
  | (with_reducible exact LeO.refl _)
  | (with_reducible exact LeO.none _)
  | (with_reducible refine LeO.ite ?_ ?_)
  | (with_reducible refine LeO.bind ?_ (fun _ => ?_))
theorem impl_square.calls (k : Nat) (a0 : Int) (r : List (List Int)) (w : World) (h : impl_square.f k a0 = some r) :
 Calls Try.prog 86 #[.int .i64 a0] w fun e w' => ∃ v0_ : Value, e = .returned (v0_) ∧ Kd.S (Kd.slice 2 (Kd.int .i64)) 45 w' w.heap.size (fun _ => True) v0_ r ∧ Below w.heap.size w w' := by
 have HB := zA (Below.refl w.heap.size w)
 have H : (if 0 ≤ a0 then (if (a0 : Int).toNat ≤ 11728124029610 then ((some (List.replicate (a0 : Int).toNat [] : List (List Int))).bind fun y205 => (impl_square.l0 k a0 y205 (y205.length : Int) 0)) else (none)) else (none)) = some r := h
 clear h
 by_cases c2 : 0 ≤ a0
 ·rw [if_pos c2] at H
  have c2b0 := eq_true c2
  have c2b1 : decide (0 ≤ a0) = true := decide_eq_true c2
  clear c2
  by_cases c3 : (a0 : Int).toNat ≤ 11728124029610
  ·rw [if_pos c3] at H
   have c3b0 := eq_true c3
   have c3b1 : decide ((a0 : Int).toNat ≤ 11728124029610) = true := decide_eq_true c3
   clear c3
   obtain ⟨y205, hy205⟩ : ∃ y_ : List (List Int), y_ = (List.replicate (a0 : Int).toNat []) := ⟨_, rfl⟩
   replace H : (impl_square.l0 k a0 y205 (y205.length : Int) 0) = some r := by (have H2_ := (Option.bind_some _ _).symm.trans H; rw [hy205]; with_reducible exact H2_)
   have Ny205 := zA hy205
   clear hy205
   have H' := zA H
   clear H
   go_enter Try.func86, Try.ntmps86
   go_wp2_with (first | ((with_reducible refine gate_dst (N := 6) rfl ?_); refine Kd.S_make (Kd.slice 2 (Kd.int .i64)) _ 45 rfl (N := 6) rfl 27 _ _ rfl a0 rfl rfl Try.underlying27 (.slice none 0 0) 24 info45 rfl (by decide) (by omega) [] (ok := fun _ => True) (okp := fun _ => True) ⟨_, rfl, Kd.R_nil _ _ _ _ _⟩ (fun _ hk => hk) trivial (zD) (Nat.le_trans (Nat.mul_le_mul_right _ (zD : a0.toNat ≤ 11728124029610)) (by omega)) (Below.refl _ _) (Nat.le_refl _) ?_; intro v206 w4 ho5 hb hg_ hnew_; clear hg_ hnew_; (rw [← Ny205.out] at ho5); have HO207 := zA (Kd.S_lower ho5 (below_size zB)); replace HB := zA (below_step zB hb); clear hb ho5; obtain ⟨Ao6, co6, eo6⟩ := Kd.S_slice HO207.out; subst eo6))
   go_loopg [9] k (fun kq v9 w' => ∃ (x3_1 : List (List Int)) (x9_1 : Int), v9 = .int .i64 x9_1 ∧ Aside0 (impl_square.l0 kq a0 x3_1 (y205.length : Int) x9_1 = some r) ∧ Aside0 (kq ≤ k) ∧ Aside0 (Kd.S (Kd.slice 2 (Kd.int .i64)) 45 w' w.heap.size (fun _ => True) (.slice Ao6 y205.length co6) x3_1) ∧ Aside0 (Below w.heap.size w w'))
   case atStart => exact ⟨(y205), (0), (by rfl), H', ⟨Nat.le_refl _⟩, ⟨zS⟩, ⟨zB⟩⟩
   case round =>
    clear H'
    obtain ⟨x3_1, x9_1, rfl, HA, HK1, HO_3, HB⟩ := hrel
    have hl3_1 := (Kd.S_reads' HO_3.out).1
    rw [hl3_1] at HO_3
    (try simp only [hl3_1])
    cases gk with
    | zero => exact absurd HA.out (by simp [impl_square.l0])
    | succ k1 =>
     have H := HA.out
     clear HA
     simp only [impl_square.l0] at H
     by_cases c7 : x9_1 < (y205.length : Int)
     ·rw [if_pos c7] at H
      have c7b0 : decide (x9_1 < (y205.length : Int)) = true := decide_eq_true c7
      clear c7
      by_cases c8 : 0 ≤ a0
      ·rw [if_pos c8] at H
       have c8b0 := eq_true c8
       have c8b1 : decide (0 ≤ a0) = true := decide_eq_true c8
       clear c8
       by_cases c9 : (a0 : Int).toNat ≤ 35184372088832
       ·rw [if_pos c9] at H
        have c9b0 := eq_true c9
        have c9b1 : decide ((a0 : Int).toNat ≤ 35184372088832) = true := decide_eq_true c9
        clear c9
        obtain ⟨y208, hy208⟩ : ∃ y_ : List Int, y_ = (List.replicate (a0 : Int).toNat 0) := ⟨_, rfl⟩
        replace H : (if 0 ≤ x9_1 then (if x9_1 < (x3_1.length : Int) then (impl_square.l0 k1 a0 (x3_1.set (x9_1 : Int).toNat y208) (y205.length : Int) (wrap64 (x9_1 + 1))) else (none)) else (none)) = some r := by (rw [hy208]; with_reducible exact H)
        have Ny208 := zA hy208
        clear hy208
        by_cases c10 : 0 ≤ x9_1
        ·rw [if_pos c10] at H
         have c10b0 : decide (0 ≤ x9_1) = true := decide_eq_true c10
         clear c10
         by_cases c11 : x9_1 < (x3_1.length : Int)
         ·rw [if_pos c11] at H
          have c11b0 : decide (x9_1 < (x3_1.length : Int)) = true := decide_eq_true c11
          clear c11
          obtain ⟨y211, hy211⟩ : ∃ y_ : List (List Int), y_ = (x3_1.set (x9_1 : Int).toNat y208) := ⟨_, rfl⟩
          replace H : (impl_square.l0 k1 a0 y211 (y205.length : Int) (wrap64 (x9_1 + 1))) = some r := by (rw [hy211]; with_reducible exact H)
          have Ny211 := zA hy211
          clear hy211
          have H' := zA H
          clear H
          go_wp2_with (first | ((with_reducible refine gate_dst (N := 15) rfl ?_); refine Kd.R_make (Kd.int .i64) _ 2 rfl (N := 15) rfl 45 _ _ rfl a0 rfl rfl Try.underlying45 (.int .i64 0) 8 info2 rfl (by decide) (by omega) 0 (ok := fun _ => True) (okp := fun _ => True) rfl (fun _ hk => hk) trivial (zD) (Nat.le_trans (Nat.mul_le_mul_right _ (zD : a0.toNat ≤ 35184372088832)) (by omega)) (Below.refl _ _) (Nat.le_refl _) ?_; intro v209 w13 ho14 hb hg_ hnew_; clear hg_ hnew_; (rw [← Ny208.out] at ho14); have HO210 := zA (Kd.R_lower ho14 (below_size zB)); replace HO_3 := zA (Kd.S_elder' zS (Kd.R_base ho14) hb); replace HB := zA (below_step zB hb); clear hb ho14; have p12 : 0 ≤ (x9_1 : Int) := zD; have q12 : (x9_1 : Int) < ((x3_1.length : Int) : Int) := zD; obtain ⟨go12, co12, eo12, gb12, gl12, cl12, HG12⟩ := Kd.S_form HO_3.out (by omega); (cases eo12); have GB12 := zA gb12; have GG12 := zA HG12; clear gb12 gl12 HG12; obtain ⟨_, ce12, hcl12, hM12, hcc12, hfr12, _, _⟩ := Kd.S_elem HO_3.out [] (x9_1 : Int) p12 q12; obtain ⟨ve12_0, rfl, ge12_0⟩ := hM12; have hx12_0 := hcc12 0 _ rfl; have hf12_0 := hfr12 0; (try simp only [show ((Kd.slice 2 (Kd.int .i64))).sz = 1 from rfl, Nat.mul_one, Nat.add_zero] at hx12_0); (try simp only [show ((Kd.slice 2 (Kd.int .i64))).sz = 1 from rfl, Nat.mul_one, Nat.add_zero] at hf12_0); clear hcl12 hcc12 hfr12; (try clear hM12); replace p12 := eq_true p12; replace q12 := eq_true q12; have n_ := zA (Kd.S_mono (ok' := (fun k_ => some k_ ≠ (v209 : Value).ownBlock)) HO_3.out (fun k_ hk => hk.2)); clear HO_3; have HO_3 := n_; clear n_; have HX15 := zA (show Kd.S (Kd.slice 2 (Kd.int .i64)) 45 w13 w.heap.size (fun k_ => ((fun _ => True)) k_ ∧ ¬ ((fun k_ => some k_ = (v209 : Value).ownBlock)) k_) (.slice (some ⟨go12, 0, none⟩) x3_1.length co6) x3_1 from (by exact Kd.S_mono HO_3.out (fun k_ hk => ⟨trivial, fun e_ => hk e_⟩))); obtain ⟨oki15, ce15, hcl15, hM15, hcc15, hfr15, hoki15, hH15⟩ := Kd.S_elem HX15.out [] (x9_1 : Int) (zD) (by have h_ : (x9_1 : Int) < ((x3_1.length : Int) : Int) := zD; exact h_); obtain ⟨ve15_0, rfl, ge15_0⟩ := hM15; have HP15 := Kd.S_seg hH15 (zD) (by have h_ : (x9_1 : Int) < ((x3_1.length : Int) : Int) := zD; exact h_) (seg := [v209]) (j := 0) (show 1 ≤ 1 from by decide) (x' := y208) (Kd.M_row (Kd.R_mono (Kd.R_tight rfl (Kd.R_mono (ok' := fun k_ => ((fun _ => True)) k_ ∧ k_ ≠ go12) (Kd.R_apart' (HO210.out) (Kd.S_typed HO_3.out) (by decide)) (fun k_ hk => ⟨trivial, fun e_ => (hk.2) (by rw [e_]; rfl)⟩))) (fun _ h_ => Or.inr (h_)))) (fun _ hk => hk) (fun k_ hk_ => ((Kd.R_mono (ok' := fun k_ => ((fun _ => True)) k_ ∧ k_ ≠ go12) (Kd.R_apart' (HO210.out) (Kd.S_typed HO_3.out) (by decide)) (fun k_ hk => ⟨trivial, fun e_ => (hk.2) (by rw [e_]; rfl)⟩))).1 k_ hk_.symm); have hx15_0 := hcc15 0 _ rfl; (try simp only [show ((Kd.slice 2 (Kd.int .i64))).sz = 1 from rfl, Nat.mul_one, Nat.add_zero] at hx15_0); have hf15_0 := hfr15 0; (try simp only [show ((Kd.slice 2 (Kd.int .i64))).sz = 1 from rfl, Nat.mul_one, Nat.add_zero] at hf15_0); clear hcl15 hcc15 hfr15 hoki15 hH15; (try clear hM15); (try simp only [show ((Kd.slice 2 (Kd.int .i64))).sz = 1 from rfl, Nat.mul_one, Nat.add_zero] at HP15)) | ((with_reducible refine gate_store (t := 45) (p := 16) rfl ?_); refine store_event (t := 45) (p := 16) (v := ?vo_w16) (w1 := (w13.setCell ⟨go12, (x9_1 : Int).toNat, none⟩ (v209))) ?hg ?ho ?hn ?hr ?_; (case ho => rfl); (case hg => rfl); (case hn => rfl); (case hr => ((obtain ⟨_, _, ev_, _⟩ := Kd.R_reads HO210.out; subst ev_; (go_simp; done)))); intro w16 hw; have hg : w13.grownBy w16 (some go12) := (by rw [hw]; exact HP15.2); have hp_ : Kd.S (Kd.slice 2 (Kd.int .i64)) 45 w16 w.heap.size (fun _ => True) (.slice (some ⟨go12, 0, none⟩) x3_1.length co6) y211 := (by rw [hw, Ny211.out]; exact HP15.1); clear HP15; replace HO_3 := zA (hp_); replace HB := zA ((by rw [hw]; exact below_set (HB.out) GB12.out : Below w.heap.size w w16)); clear HO210; clear hg hw hp_))
          (try simp only [← hl3_1])
          go_roundg k1
          case measure => have := HK1.out; omega
          case rel => exact ⟨(y211), (wrap64 (x9_1 + 1)), (by rfl), H', ⟨by have := HK1.out; omega⟩, ⟨by (try simp only [hl3_1]); exact HO_3.out⟩, ⟨zB⟩⟩
         ·rw [if_neg c11] at H
          exact absurd H (by simp)
        ·rw [if_neg c10] at H
         exact absurd H (by simp)
       ·rw [if_neg c9] at H
        exact absurd H (by simp)
      ·rw [if_neg c8] at H
       exact absurd H (by simp)
     ·rw [if_neg c7] at H
      have c7b0 : decide (x9_1 < (y205.length : Int)) = false := decide_eq_false c7
      try (have c7b9 : decide (x9_1 < (x3_1.length : Int)) = false := by rw [← hl3_1]; exact decide_eq_false c7)
      clear c7
      obtain rfl := Option.some.inj H
      go_wp2
      go_ret
      exact ⟨_, by rfl, zS, zB⟩
  ·rw [if_neg c3] at H
   exact absurd H (by simp)
 ·rw [if_neg c2] at H
  exact absurd H (by simp)


end Go.Proofs.Ytkbneilobaehkaa.P
