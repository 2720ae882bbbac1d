/- What a call of each Go function named below comes to is what the plain Lean function beside it says. Made by a program of this session out of the print of the translation; Lean checks it. -/
import Derived.Test.YtcklefgkbddlhaaPx0
import Derived.Test.YtcklefgkbddlhaaPx4
import Derived.Test.YtcklefgkbddlhaaPx5
import Derived.Test.YtcklefgkbddlhaaPx8
namespace Go.Proofs.Ytcklefgkbddlhaa.P
open Go.RowKit Go.Proofs.YtcklefgkbddlhaaW.PrintWords Go.Proofs.YtcklefgkbddlhaaW.PrintLast Go.Proofs.YtcklefgkbddlhaaW.PrintMore
attribute [local go_sem] max2_int min2_int max_two min_two max_three min_three max_four min_four   -- for this text's walks alone
set_option linter.unusedVariables false
set_option linter.unusedSimpArgs false


/-! ### spec_WordOfSignature: function 38 -/
mutual
def spec_WordOfSignature.l0 : Nat → List (List Int) → List (S32) → Int → Int → Int → List (S89) → Option (List Int × Int)
 | 0, _, _, _, _, _, _ => none
 | k + 1, x4, x5, x6, x275000, x275001, x275002 => spec_WordOfSignature.l1 k x4 x5 x6 0 x275000 x275001 x275002
def spec_WordOfSignature.l1 : Nat → List (List Int) → List (S32) → Int → Int → Int → Int → List (S89) → Option (List Int × Int)
 | 0, _, _, _, _, _, _, _ => none
 | k + 1, x4, x5, x6, x7, x275000, x275001, x275002 => if x7 < (x4.length : Int) then (if 0 ≤ x7 then (if x7 < (x5.length : Int) then ((spec_l09Same.f k ((rd_T32 x5 x7).f0) ((rd_T32 x5 x7).f1) ((rd_T32 x5 x7).f2) x275000 x275001 x275002).bind fun t291 => (if t291 = true then (some (rd_L9 x4 x7, 0)) else (spec_WordOfSignature.l1 k x4 x5 x6 (wrap64 (x7 + 1)) x275000 x275001 x275002))) else (none)) else (none)) else (if x6 = x275001 then (some (([] : List Int), 4)) else (spec_WordOfSignature.l2 k x4 x5 x6 (([] : List (List Int))) (([] : List (S32))) 0 x275000 x275001 x275002))
def spec_WordOfSignature.l2 : Nat → List (List Int) → List (S32) → Int → List (List Int) → List (S32) → Int → Int → Int → List (S89) → Option (List Int × Int)
 | 0, _, _, _, _, _, _, _, _, _ => none
 | k + 1, x4, x5, x6, x8, x9, x10, x275000, x275001, x275002 => if x10 < (x4.length : Int) then (spec_WordOfSignature.l3 k x4 x5 x6 x8 x9 x10 (wrap64 (-x275000)) x275000 x275001 x275002) else (spec_WordOfSignature.l0 k x8 x9 (wrap64 (x6 + 1)) x275000 x275001 x275002)
def spec_WordOfSignature.l3 : Nat → List (List Int) → List (S32) → Int → List (List Int) → List (S32) → Int → Int → Int → Int → List (S89) → Option (List Int × Int)
 | 0, _, _, _, _, _, _, _, _, _, _ => none
 | k + 1, x4, x5, x6, x8, x9, x10, x11, x275000, x275001, x275002 => if x11 ≤ x275000 then (if 0 ≤ x10 then (if x10 < (x4.length : Int) then (if x11 = 0 then (spec_WordOfSignature.j4 k x4 x5 x6 x8 x9 x10 x11 true x275000 x275001 x275002) else (if ((rd_L9 x4 x10).length : Int) > 0 then (if 0 ≤ (wrap64 (((rd_L9 x4 x10).length : Int) - 1)) then (if (wrap64 (((rd_L9 x4 x10).length : Int) - 1)) < ((rd_L9 x4 x10).length : Int) then (spec_WordOfSignature.j4 k x4 x5 x6 x8 x9 x10 x11 ((rd (rd_L9 x4 x10) (wrap64 (((rd_L9 x4 x10).length : Int) - 1))) == (wrap64 (-x11))) x275000 x275001 x275002) else (none)) else (none)) else (spec_WordOfSignature.j4 k x4 x5 x6 x8 x9 x10 x11 false x275000 x275001 x275002))) else (none)) else (none)) else (spec_WordOfSignature.l2 k x4 x5 x6 x8 x9 (wrap64 (x10 + 1)) x275000 x275001 x275002)
def spec_WordOfSignature.j4 : Nat → List (List Int) → List (S32) → Int → List (List Int) → List (S32) → Int → Int → Bool → Int → Int → List (S89) → Option (List Int × Int)
 | 0, _, _, _, _, _, _, _, _, _, _, _ => none
 | k + 1, x4, x5, x6, x8, x9, x10, x11, x86, x275000, x275001, x275002 => if x86 = true then (spec_WordOfSignature.l3 k x4 x5 x6 x8 x9 x10 (wrap64 (x11 + 1)) x275000 x275001 x275002) else (if 0 ≤ x10 then (if x10 < (x4.length : Int) then ((spec_l01Own.f (rd_L9 x4 x10)).bind fun t303 => (if t303.length < 17592186044416 then (if x8.length < 5864062014805 then (if x10 < (x5.length : Int) then ((spec_l09Step.f k ((rd_T32 x5 x10).f0) ((rd_T32 x5 x10).f1) ((rd_T32 x5 x10).f2) x11).bind fun bt313 => (if x9.length < 3518437208883 then (spec_WordOfSignature.l3 k x4 x5 x6 (x8 ++ [(t303 ++ [x11])]) (x9 ++ [(⟨bt313.1, bt313.2.1, bt313.2.2⟩ : S32)]) x10 (wrap64 (x11 + 1)) x275000 x275001 x275002) else (none))) else (none)) else (none)) else (none))) else (none)) else (none))
end
def spec_WordOfSignature.f (k : Nat) (a0_0 : Int) (a0_1 : Int) (l0_2 : List (S89)) : Option (List Int × Int) := (spec_l01Is.f k a0_0 a0_1 l0_2).bind fun t275 => (if t275 = true then ((spec_l01One.f a0_0 a0_1 (⟨#[]⟩ : ByteArray)).bind fun bt282 => (spec_WordOfSignature.l0 k (([(([] : List Int))] : List (List Int))) (([(⟨bt282.1, bt282.2.1, bt282.2.2⟩ : S32)] : List (S32))) 0 a0_0 a0_1 l0_2)) else (some (([] : List Int), 1)))
set_option maxHeartbeats 8000000 in
set_option maxRecDepth 100000 in
theorem spec_WordOfSignature.calls (k : Nat) (a0_0 : Int) (a0_1 : Int) (A0_2 : Option Addr) (c0_2 : Nat) (l0_2 : List (S89)) (r1 : List Int) (r2 : Int) (w : World) (hr0_2 : Kd.C k89 w A0_2 l0_2.length l0_2) (hc0_2 : l0_2.length ≤ c0_2) (h : spec_WordOfSignature.f k a0_0 a0_1 l0_2 = some (r1, r2)) :
 Calls Try.prog 38 #[.agg #[.int .i64 a0_0, .int .i64 a0_1, .slice A0_2 l0_2.length c0_2]] w fun e w' => ∃ v0_ : Value, e = .returned (.tuple #[v0_, .int .i64 r2]) ∧ Kd.V (Kd.int .i64) 2 w' w.heap.size (fun k_ => (w.heap.size ≤ k_)) v0_ r1 ∧ Below w.heap.size w w' := by
 have hu32 := Try.underlying32
 have HR0_2 := zA hr0_2
 have HC0_2 := zA hc0_2
 clear hr0_2 hc0_2
 have HB := zA (Below.refl w.heap.size w)
 have H : ((spec_l01Is.f k a0_0 a0_1 l0_2).bind fun t275 => (if t275 = true then ((spec_l01One.f a0_0 a0_1 (⟨#[]⟩ : ByteArray)).bind fun bt282 => (spec_WordOfSignature.l0 k (([(([] : List Int))] : List (List Int))) (([(⟨bt282.1, bt282.2.1, bt282.2.2⟩ : S32)] : List (S32))) 0 a0_0 a0_1 l0_2)) else (some (([] : List Int), 1)))) = some (r1, r2) := h
 clear h
 replace H := Option.bind_eq_some_iff.mp H
 obtain ⟨t275, A20, H⟩ := H
 replace H : (if t275 = true then ((spec_l01One.f a0_0 a0_1 (⟨#[]⟩ : ByteArray)).bind fun bt282 => (spec_WordOfSignature.l0 k (([(([] : List Int))] : List (List Int))) (([(⟨bt282.1, bt282.2.1, bt282.2.2⟩ : S32)] : List (S32))) 0 a0_0 a0_1 l0_2)) else (some (([] : List Int), 1))) = some (r1, r2) := H
 have A2 := zA A20
 clear A20
 by_cases c3 : t275 = true
 ·subst c3
  have H1 : ((spec_l01One.f a0_0 a0_1 (⟨#[]⟩ : ByteArray)).bind fun bt282 => (spec_WordOfSignature.l0 k (([(([] : List Int))] : List (List Int))) (([(⟨bt282.1, bt282.2.1, bt282.2.2⟩ : S32)] : List (S32))) 0 a0_0 a0_1 l0_2)) = some (r1, r2) := by rw [if_pos rfl] at H; exact H
  clear H
  have H := H1
  clear H1
  obtain ⟨y276, hy276⟩ : ∃ y_ : List Int, y_ = (([] : List Int)) := ⟨_, rfl⟩
  replace H : ((spec_l01One.f a0_0 a0_1 (⟨#[]⟩ : ByteArray)).bind fun bt282 => (spec_WordOfSignature.l0 k (([y276] : List (List Int))) (([(⟨bt282.1, bt282.2.1, bt282.2.2⟩ : S32)] : List (S32))) 0 a0_0 a0_1 l0_2)) = some (r1, r2) := by (rw [hy276]; with_reducible exact H)
  have Ny276 := zA hy276
  clear hy276
  obtain ⟨y279, hy279⟩ : ∃ y_ : List (List Int), y_ = (([y276] : List (List Int))) := ⟨_, rfl⟩
  replace H : ((spec_l01One.f a0_0 a0_1 (⟨#[]⟩ : ByteArray)).bind fun bt282 => (spec_WordOfSignature.l0 k y279 (([(⟨bt282.1, bt282.2.1, bt282.2.2⟩ : S32)] : List (S32))) 0 a0_0 a0_1 l0_2)) = some (r1, r2) := by (rw [hy279]; with_reducible exact H)
  have Ny279 := zA hy279
  clear hy279
  replace H := Option.bind_eq_some_iff.mp H
  obtain ⟨⟨t282, t283, t284⟩, A40, H⟩ := H
  replace H : (spec_WordOfSignature.l0 k y279 (([(⟨t282, t283, t284⟩ : S32)] : List (S32))) 0 a0_0 a0_1 l0_2) = some (r1, r2) := H
  have A4 := zA A40
  clear A40
  obtain ⟨y287, hy287⟩ : ∃ y_ : List (S32), y_ = (([(⟨t282, t283, t284⟩ : S32)] : List (S32))) := ⟨_, rfl⟩
  replace H : (spec_WordOfSignature.l0 k y279 y287 0 a0_0 a0_1 l0_2) = some (r1, r2) := by (rw [hy287]; with_reducible exact H)
  have Ny287 := zA hy287
  clear hy287
  have H' := zA H
  clear H
  go_enter Try.func38, Try.ntmps38
  go_wp2_with (first | ((with_reducible refine gate_dst (N := 1) rfl ?_); refine zX 1 (#[.int .i64 a0_0, .int .i64 a0_1, .slice A0_2 l0_2.length c0_2]) 32 ?_; intro gb274 hg w5 hbox hb; have BK274 := zA (hbox); have GW274 := zA (zG : w.heap.size ≤ gb274); have GE274 := zA (zG : w.heap.size ≤ gb274); replace HB := zA (below_step zB hb); clear hb hbox hg; obtain ⟨hcz6_0, hcz6_1, hcz6_2, hfz6_0, hfz6_1, hfz6_2⟩ := zC3 BK274) | ((with_reducible refine gate_callee (f := 52) rfl ?_); refine goesL_ (some 14) rfl rfl Try.func52 (by kernel_rfl) rfl #[.agg #[.int .i64 a0_0, .int .i64 a0_1, .slice A0_2 l0_2.length c0_2]] rfl zM ?_; (with_reducible refine (spec_l01Is.calls k a0_0 a0_1 _ _ l0_2 true _ ?side1 ?side2 A2.out).mono ?_); (case side1 => repeat (exact (Kd.C_below HR0_2.out HB.out))); (case side2 => exact HC0_2.out); rintro e w7 ⟨rfl, hb⟩; refine ⟨_, rfl, ?_⟩; replace BK274 := zA (zW BK274 hb); replace HB := zA (below_step zB hb); (try clear hb); (try clear hb2); (try clear hk); (try clear hi)) | ((with_reducible refine gate_dst (N := 16) rfl ?_); refine Kd.R_lit (Kd.int .i64) _ 2 ?hg (N := 16) ?hd (xs := ([] : List Int)) (inner := []) (ok := fun _ => True) (okp := fun _ => True) ?hr ?hp (fun _ hk => hk) trivial (Below.refl _ _) (Nat.le_refl _) (by simp) ?_; (case hd => rfl); (case hg => rfl); (case hr => (go_simp; done)); (case hp => exact (Reps.none _ _)); intro v277 w8 ho9 hb hg_ hnew_; clear hg_ hnew_; (rw [← Ny276.out] at ho9); have HO278 := zA (Kd.R_lower (Kd.R_newM (M := fun k_ => (w.heap.size ≤ k_)) ho9 (below_size zB) (fun k_ h_ => h_)) (below_size zB)); replace BK274 := zA (zW BK274 hb); replace HB := zA (below_step zB hb); clear hb ho9; obtain ⟨Ao10, co10, eo10⟩ := Kd.R_slice HO278.out; subst eo10) | ((with_reducible refine gate_dst (N := 17) rfl ?_); refine Kd.N_lit (Kd.slice 2 (Kd.int .i64)) _ 48 ?hg (N' := 17) ?hd (xs := ([y276] : List (List Int))) (inner := [.slice Ao10 y276.length co10]) (ok := (fun k_ => (w.heap.size ≤ k_) ∧ k_ ≠ gb274)) (okp := (fun k_ => (w.heap.size ≤ k_) ∧ k_ ≠ gb274)) ?hr ?hp (fun _ hk => hk) ((show ∀ k_, w8.heap.size ≤ k_ → (fun k_ => (w.heap.size ≤ k_) ∧ k_ ≠ gb274) k_ from fun k_ hk => ⟨(Nat.le_trans (below_size zB) hk), Kd.freshB (g := gb274) (o := .cells #[.int .i64 a0_0, .int .i64 a0_1, .slice A0_2 l0_2.length c0_2] 32 (0, 0)) zK k_ hk⟩) _ (Nat.le_refl _)) (Below.refl _ _) (Nat.le_refl _) (by simp) ?_; (case hd => rfl); (case hg => rfl); (case hr => (go_simp; done)); (case hp => exact (Reps.one (show Kd.FK (Kd.slice 2 (Kd.int .i64)) _ _ y276 [.slice Ao10 y276.length co10] from (Kd.FK_slice_mk (Kd.R_reads' (Kd.R_mono (ok' := (fun k_ => (w.heap.size ≤ k_) ∧ k_ ≠ gb274)) (Kd.R_types (HO278.out) BK274.out (by decide)) (fun k_ hk => ⟨hk.1.1, hk.2⟩))).2.1 (Kd.R_F (Kd.R_mono (ok' := (fun k_ => (w.heap.size ≤ k_) ∧ k_ ≠ gb274)) (Kd.R_types (HO278.out) BK274.out (by decide)) (fun k_ hk => ⟨hk.1.1, hk.2⟩))))) (Reps.none _ _))); intro v280 w11 ho12 hb hg_ hnew_; clear hg_ hnew_; (rw [← Ny279.out] at ho12); have HO281 := zA (Kd.N_lower ho12 (below_size zB)); replace BK274 := zA (zW BK274 hb); replace HB := zA (below_step zB hb); clear HO278; clear hb ho12; obtain ⟨hcz13_0, hcz13_1, hcz13_2, hfz13_0, hfz13_1, hfz13_2⟩ := zC3 BK274) | ((with_reducible refine gate_callee (f := 81) rfl ?_); refine goesL_ (some 22) rfl rfl Try.func81 (by kernel_rfl) rfl #[.int .i64 a0_0, .int .i64 a0_1, .string (⟨#[]⟩ : ByteArray)] rfl zM ?_; (with_reducible refine (spec_l01One.calls a0_0 a0_1 (⟨#[]⟩ : ByteArray) t282 t283 t284 _ A4.out).mono ?_); rintro e w14 ⟨v285, rfl, ho0, hb⟩; refine ⟨_, rfl, ?_⟩; have HO286 := zA (Kd.R_lower (Kd.R_newM (M := fun k_ => (w.heap.size ≤ k_)) ho0 (below_size zB) (fun k_ h_ => h_)) (below_size zB)); replace HO281 := zA (Kd.N_elder' (by exact HO281.out) (Kd.R_base ho0) hb); replace BK274 := zA (zW BK274 hb); replace HB := zA (below_step zB hb); (try clear hb); (try clear hb2); (try clear hk); (try clear hi); (try clear ho0); obtain ⟨Ao15, co15, eo15⟩ := Kd.R_slice HO286.out; subst eo15) | ((with_reducible refine gate_dst (N := 23) rfl ?_); refine Kd.N_lit k32 _ 32 ?hg (N' := 23) ?hd (xs := ([(⟨t282, t283, t284⟩ : S32)] : List (S32))) (inner := [.int .i64 t282, .int .i64 t283, .slice Ao15 t284.length co15]) (ok := (fun k_ => (w.heap.size ≤ k_) ∧ some k_ ≠ (v280 : Value).ownBlock ∧ k_ ≠ gb274)) (okp := (fun k_ => (w.heap.size ≤ k_) ∧ some k_ ≠ (v280 : Value).ownBlock ∧ k_ ≠ gb274)) ?hr ?hp (fun _ hk => hk) ((show ∀ k_, w14.heap.size ≤ k_ → (fun k_ => (w.heap.size ≤ k_) ∧ some k_ ≠ (v280 : Value).ownBlock ∧ k_ ≠ gb274) k_ from fun k_ hk => ⟨(Nat.le_trans (below_size zB) hk), Kd.fresh' (Kd.N_lt (by exact HO281.out)) k_ hk, Kd.freshB (g := gb274) (o := .cells #[.int .i64 a0_0, .int .i64 a0_1, .slice A0_2 l0_2.length c0_2] 32 (0, 0)) zK k_ hk⟩) _ (Nat.le_refl _)) (Below.refl _ _) (Nat.le_refl _) (by simp) ?_; (case hd => rfl); (case hg => rfl); (case hr => (go_simp; done)); (case hp => exact (Reps.c3 (show Kd.FK k32 _ _ (⟨t282, t283, t284⟩ : S32) [.int .i64 t282, .int .i64 t283, .slice Ao15 t284.length co15] from (k32_mkF _ _ (⟨t282, t283, t284⟩ : S32) (Kd.R_reads' (Kd.R_mono (ok' := (fun k_ => (w.heap.size ≤ k_) ∧ some k_ ≠ (v280 : Value).ownBlock ∧ k_ ≠ gb274)) (Kd.R_types (Kd.R_apart' (HO286.out) (Kd.N_typed HO281.out) (by decide)) BK274.out (by decide)) (fun k_ hk => ⟨hk.1.1.1, ⟨hk.1.2, hk.2⟩⟩))).2.1 (Kd.R_F (Kd.R_mono (ok' := (fun k_ => (w.heap.size ≤ k_) ∧ some k_ ≠ (v280 : Value).ownBlock ∧ k_ ≠ gb274)) (Kd.R_types (Kd.R_apart' (HO286.out) (Kd.N_typed HO281.out) (by decide)) BK274.out (by decide)) (fun k_ hk => ⟨hk.1.1.1, ⟨hk.1.2, hk.2⟩⟩))))) (Reps.none _ _))); intro v288 w16 ho17 hb hg_ hnew_; clear hg_ hnew_; (rw [← Ny287.out] at ho17); have HO289 := zA (Kd.N_lower ho17 (below_size zB)); replace HO281 := zA (Kd.N_elder' (by exact HO281.out) (Kd.N_base ho17) hb); replace BK274 := zA (zW BK274 hb); replace HB := zA (below_step zB hb); clear HO286; clear hb ho17))
  go_loopg [4, 5, 6] k (fun kq v4 v5 v6 w' => ∃ (x4_1 : List (List Int)) (x5_1 : List (S32)) (x6_1 : Int), v6 = .int .i64 x6_1 ∧ Aside0 (spec_WordOfSignature.l0 kq x4_1 x5_1 x6_1 a0_0 a0_1 l0_2 = some (r1, r2)) ∧ Aside0 (kq ≤ k) ∧ Aside0 (Kd.N (Kd.slice 2 (Kd.int .i64)) 48 w' w.heap.size (fun k_ => (w.heap.size ≤ k_) ∧ some k_ ≠ (v5 : Value).ownBlock ∧ k_ ≠ gb274) v4 x4_1) ∧ Aside0 (Kd.N k32 32 w' w.heap.size (fun k_ => (w.heap.size ≤ k_) ∧ some k_ ≠ (v4 : Value).ownBlock ∧ k_ ≠ gb274) v5 x5_1) ∧ Aside0 (w'.heap[gb274]? = some (.cells #[.int .i64 a0_0, .int .i64 a0_1, (.slice A0_2 l0_2.length c0_2)] 32 (0, 0))) ∧ Aside0 (Below w.heap.size w w'))
  case atStart => exact ⟨(y279), (y287), (0), (by rfl), H', ⟨Nat.le_refl _⟩, ⟨by exact Kd.N_mono HO281.out (fun _ hk => ⟨hk.1.1.1, ⟨hk.2, hk.1.1.2⟩⟩)⟩, ⟨by exact HO289.out⟩, ⟨zK⟩, ⟨zB⟩⟩
  case round =>
   clear H'
   obtain ⟨x4_1, x5_1, x6_1, rfl, HA, HK1, HO_4, HO_5, BK274, HB⟩ := hrel
   cases gk with
   | zero => exact absurd HA.out (by simp [spec_WordOfSignature.l0])
   | succ k1 =>
    have H := HA.out
    clear HA
    simp only [spec_WordOfSignature.l0] at H
    have H' := zA H
    clear H
    go_wp2
    go_loopg [7] k1 (fun kq v7 w' => ∃ (x7_2 : Int), v7 = .int .i64 x7_2 ∧ Aside0 (spec_WordOfSignature.l1 kq x4_1 x5_1 x6_1 x7_2 a0_0 a0_1 l0_2 = some (r1, r2)) ∧ Aside0 (kq ≤ k1) ∧ Aside0 (Kd.N (Kd.slice 2 (Kd.int .i64)) 48 w' w.heap.size (fun k_ => (w.heap.size ≤ k_) ∧ some k_ ≠ (u5 : Value).ownBlock ∧ k_ ≠ gb274) u4 x4_1) ∧ Aside0 (Kd.N k32 32 w' w.heap.size (fun k_ => (w.heap.size ≤ k_) ∧ some k_ ≠ (u4 : Value).ownBlock ∧ k_ ≠ gb274) u5 x5_1) ∧ Aside0 (w'.heap[gb274]? = some (.cells #[.int .i64 a0_0, .int .i64 a0_1, (.slice A0_2 l0_2.length c0_2)] 32 (0, 0))) ∧ Aside0 (Below w.heap.size w w'))
    case atStart => exact ⟨(0), (by rfl), H', ⟨Nat.le_refl _⟩, ⟨by exact HO_4.out⟩, ⟨by exact HO_5.out⟩, ⟨zK⟩, ⟨zB⟩⟩
    case round =>
     clear H'
     obtain ⟨x7_2, rfl, HA, HK2, HO_4, HO_5, BK274, HB⟩ := hrel
     cases gk with
     | zero => exact absurd HA.out (by simp [spec_WordOfSignature.l1])
     | succ k2 =>
      have H := HA.out
      clear HA
      simp only [spec_WordOfSignature.l1] at H
      by_cases c18 : x7_2 < (x4_1.length : Int)
      ·rw [if_pos c18] at H
       have c18b0 : decide (x7_2 < (x4_1.length : Int)) = true := decide_eq_true c18
       clear c18
       by_cases c19 : 0 ≤ x7_2
       ·rw [if_pos c19] at H
        have c19b0 : decide (0 ≤ x7_2) = true := decide_eq_true c19
        clear c19
        by_cases c20 : x7_2 < (x5_1.length : Int)
        ·rw [if_pos c20] at H
         have c20b0 : decide (x7_2 < (x5_1.length : Int)) = true := decide_eq_true c20
         clear c20
         replace H := Option.bind_eq_some_iff.mp H
         obtain ⟨t291, A210, H⟩ := H
         replace H : (if t291 = true then (some (rd_L9 x4_1 x7_2, 0)) else (spec_WordOfSignature.l1 k2 x4_1 x5_1 x6_1 (wrap64 (x7_2 + 1)) a0_0 a0_1 l0_2)) = some (r1, r2) := H
         have A21 := zA A210
         clear A210
         by_cases c22 : t291 = true
         ·subst c22
          have H1 : (some (rd_L9 x4_1 x7_2, 0)) = some (r1, r2) := by rw [if_pos rfl] at H; exact H
          clear H
          have H := H1
          clear H1
          simp only [Option.some.injEq, Prod.mk.injEq] at H
          obtain ⟨rfl, rfl⟩ := H
          obtain ⟨Ao23, co23, eo23⟩ := Kd.N_slice HO_4.out
          subst eo23
          try go_wp2
          replace HO_4 := zA (Kd.N_drew HO_4.out)
          replace HO_5 := zA (Kd.N_drew HO_5.out)
          replace BK274 := zA (blk_drew BK274.out)
          replace HB := zA (below_drew1 HB.out)
          obtain ⟨Ao25, co25, eo25⟩ := Kd.N_slice HO_5.out
          (subst eo25)
          have p290 : 0 ≤ (x7_2 : Int) := zD
          have q290 : x7_2 < (x5_1.length : Int) := zD
          obtain ⟨ad290, A290_2, c290_2, e290, hx290_0, hx290_1, hx290_2, hl290_2, hi290_2⟩ := at_T32 (Kd.N_reads' HO_5.out).2.2 x7_2 p290 q290
          cases e290
          obtain ⟨ce290, hce290, hMe290, hcc290⟩ := Kd.N_get HO_5.out z32 x7_2 p290 (by exact q290)
          obtain ⟨ua290_2, uc290_2, rfl, ul290_2, ge290_2⟩ := k32_openF hMe290
          have hv290_2 := hcc290 2 _ rfl
          rw [add_field _ _ 2 (by omega)] at hv290_2
          replace hv290_2 := Option.some.inj (hv290_2.symm.trans hx290_2)
          injection hv290_2 with hva_ hvn_ hvc_
          rw [hva_] at ge290_2
          rw [hvc_] at ul290_2
          have HL290_2 := zA (show Kd.V k89 89 _ w.heap.size _ _ ((rd_T32 x5_1 x7_2).f2) from Kd.V_mk ul290_2 ge290_2)
          clear hva_ hvn_ hvc_ ge290_2 ul290_2
          clear hcc290 hce290
          have HR290_2 := zA hi290_2
          have HC290_2 := zA hl290_2
          clear hi290_2 hl290_2
          replace p290 := eq_true p290
          replace q290 := eq_true q290
          refine start_ (n := 6) (S := fun w' => w'.cell? ⟨gb274, 0, none⟩ = some (.int .i64 a0_0) ∧ w'.cell? ⟨gb274, 1, none⟩ = some (.int .i64 a0_1) ∧ w'.cell? ⟨gb274, 2, none⟩ = some (.slice A0_2 l0_2.length c0_2) ∧ w'.cell? (ad290.add ((x7_2).toNat * 3)) = some (.int .i64 ((rd_T32 x5_1 x7_2).f0)) ∧ w'.cell? ⟨(ad290.add ((x7_2).toNat * 3)).block, (ad290.add ((x7_2).toNat * 3)).off + 1, none⟩ = some (.int .i64 ((rd_T32 x5_1 x7_2).f1)) ∧ w'.cell? ⟨(ad290.add ((x7_2).toNat * 3)).block, (ad290.add ((x7_2).toNat * 3)).off + 2, none⟩ = some (.slice A290_2 ((rd_T32 x5_1 x7_2).f2).length c290_2)) (ds := []) #[false, false, false, false, false, false] (by kernel_rfl) rfl rfl ⟨(blk_cell BK274.out 0).trans rfl, (blk_cell BK274.out 1).trans rfl, (blk_cell BK274.out 2).trans rfl, hx290_0, hx290_1, hx290_2⟩ (fun hHeld => ?_)
          generalize wr.drew = w24 at HO_4 HO_5 BK274 HB HL290_2 HR290_2 hx290_0 hx290_1 hx290_2 hHeld ⊢
          refine zP 0 (N := some 32) (h := ?_)
          refine zP 1 (N := some 33) (h := ?_)
          refine zP 2 (N := some 34) (h := ?_)
          refine zT 3 hHeld (N := some 35) (h := ?_)
          refine zT 4 hHeld (N := some 36) (h := ?_)
          refine one_ (i := 5) (N := some 37) #[true, true, true, true, true, true] rfl rfl (by kernel_rfl) (by decide) (fun K hK => ?_)
          refine goes_ Try.func82 (by kernel_rfl) rfl #[.agg #[.int .i64 ((rd_T32 x5_1 x7_2).f0), .int .i64 ((rd_T32 x5_1 x7_2).f1), .slice A290_2 ((rd_T32 x5_1 x7_2).f2).length c290_2], .agg #[.int .i64 a0_0, .int .i64 a0_1, .slice A0_2 l0_2.length c0_2]] (by rfl) rfl rfl zM ?_
          with_reducible refine (spec_l09Same.calls k2 ((rd_T32 x5_1 x7_2).f0) ((rd_T32 x5_1 x7_2).f1) _ _ ((rd_T32 x5_1 x7_2).f2) a0_0 a0_1 _ _ l0_2 true _ ?side1 ?side2 ?side3 ?side4 A21.out).mono ?_
          (case side1 => repeat (exact (by repeat ((with_reducible exact HR290_2.out)))))
          (case side2 => exact HC290_2.out)
          (case side3 => repeat (exact (Kd.C_below HR0_2.out HB.out)))
          (case side4 => exact HC0_2.out)
          rintro e w26 ⟨rfl, hb⟩
          have HS3_ := (hb.cell (World.block_lt_of_cell? _ _ (hHeld.2.2.2.1))).trans (hHeld.2.2.2.1)
          have HS4_ := (hb.cell (World.block_lt_of_cell? _ _ (hHeld.2.2.2.2.1))).trans (hHeld.2.2.2.2.1)
          have HS5_ := (hb.cell (World.block_lt_of_cell? _ _ (hHeld.2.2.2.2.2))).trans (hHeld.2.2.2.2.2)
          refine ⟨_, rfl, ?_⟩
          replace HO_4 := zA (Kd.N_below (by exact HO_4.out) hb)
          replace HO_5 := zA (Kd.N_below (by exact HO_5.out) hb)
          replace HL290_2 := zA (Kd.V_below (by exact HL290_2.out) hb)
          replace BK274 := zA (zW BK274 hb)
          replace HR290_2 := zA (Kd.C_below (by repeat ((with_reducible exact HR290_2.out))) hb)
          replace HB := zA (below_step zB hb)
          (try clear hb)
          (try clear hb2)
          (try clear hk)
          (try clear hi)
          refine hK.out _ _ ⟨(blk_cell BK274.out 0).trans rfl, (blk_cell BK274.out 1).trans rfl, (blk_cell BK274.out 2).trans rfl, HS3_, HS4_, HS5_⟩ (fun hHeld => ?_)
          clear hK K
          refine norm_ (a' := ?_) ?_ ?_
          rotate_left
          ·show Act.put _ (some 37) _ = _
           simp only [Act.put, List.setIfInBounds_toArray, List.set, i64_w, i32_w]
           rfl
          refine done_ (by kernel_rfl) ?_
          have p292 : 0 ≤ (x7_2 : Int) := zD
          have q292 : x7_2 < (x4_1.length : Int) := zD
          obtain ⟨ad292, A292_0, c292_0, e292, hx292_0, hl292_0, hi292_0⟩ := at_L9 (Kd.N_reads' HO_4.out).2.2 x7_2 p292 q292
          cases e292
          obtain ⟨ce292, hce292, hMe292, hcc292⟩ := Kd.N_get HO_4.out [] x7_2 p292 (by exact q292)
          obtain ⟨ua292_0, uc292_0, rfl, ul292_0, ge292_0⟩ := Kd.FK_slice_open hMe292
          have hv292_0 := hcc292 0 _ rfl
          rw [Nat.add_zero, show ((Kd.slice 2 (Kd.int .i64))).sz = 1 from rfl, Nat.mul_one] at hv292_0
          replace hv292_0 := Option.some.inj (hv292_0.symm.trans hx292_0)
          injection hv292_0 with hva_ hvn_ hvc_
          rw [hva_] at ge292_0
          rw [hvc_] at ul292_0
          have HL292_0 := zA (show Kd.V (Kd.int .i64) 2 _ w.heap.size _ _ (rd_L9 x4_1 x7_2) from Kd.V_mk ul292_0 ge292_0)
          clear hva_ hvn_ hvc_ ge292_0 ul292_0
          clear hcc292 hce292
          have HR292_0 := zA hi292_0
          have HC292_0 := zA hl292_0
          clear hi292_0 hl292_0
          replace p292 := eq_true p292
          replace q292 := eq_true q292
          try go_wp2
          go_ret2
          exact ⟨_, by rfl, by exact Kd.V_mono HL292_0.out (fun _ hk => hk.1.1), zB⟩
         ·replace c22 := Bool.eq_false_iff.mpr c22
          subst c22
          have H1 : (spec_WordOfSignature.l1 k2 x4_1 x5_1 x6_1 (wrap64 (x7_2 + 1)) a0_0 a0_1 l0_2) = some (r1, r2) := by rw [if_neg (show ¬ (false = true) by decide)] at H; exact H
          clear H
          have H := H1
          clear H1
          have H' := zA H
          clear H
          obtain ⟨Ao27, co27, eo27⟩ := Kd.N_slice HO_4.out
          subst eo27
          try go_wp2
          replace HO_4 := zA (Kd.N_drew HO_4.out)
          replace HO_5 := zA (Kd.N_drew HO_5.out)
          replace BK274 := zA (blk_drew BK274.out)
          replace HB := zA (below_drew1 HB.out)
          obtain ⟨Ao29, co29, eo29⟩ := Kd.N_slice HO_5.out
          (subst eo29)
          have p290 : 0 ≤ (x7_2 : Int) := zD
          have q290 : x7_2 < (x5_1.length : Int) := zD
          obtain ⟨ad290, A290_2, c290_2, e290, hx290_0, hx290_1, hx290_2, hl290_2, hi290_2⟩ := at_T32 (Kd.N_reads' HO_5.out).2.2 x7_2 p290 q290
          cases e290
          obtain ⟨ce290, hce290, hMe290, hcc290⟩ := Kd.N_get HO_5.out z32 x7_2 p290 (by exact q290)
          obtain ⟨ua290_2, uc290_2, rfl, ul290_2, ge290_2⟩ := k32_openF hMe290
          have hv290_2 := hcc290 2 _ rfl
          rw [add_field _ _ 2 (by omega)] at hv290_2
          replace hv290_2 := Option.some.inj (hv290_2.symm.trans hx290_2)
          injection hv290_2 with hva_ hvn_ hvc_
          rw [hva_] at ge290_2
          rw [hvc_] at ul290_2
          have HL290_2 := zA (show Kd.V k89 89 _ w.heap.size _ _ ((rd_T32 x5_1 x7_2).f2) from Kd.V_mk ul290_2 ge290_2)
          clear hva_ hvn_ hvc_ ge290_2 ul290_2
          clear hcc290 hce290
          have HR290_2 := zA hi290_2
          have HC290_2 := zA hl290_2
          clear hi290_2 hl290_2
          replace p290 := eq_true p290
          replace q290 := eq_true q290
          refine start_ (n := 6) (S := fun w' => w'.cell? ⟨gb274, 0, none⟩ = some (.int .i64 a0_0) ∧ w'.cell? ⟨gb274, 1, none⟩ = some (.int .i64 a0_1) ∧ w'.cell? ⟨gb274, 2, none⟩ = some (.slice A0_2 l0_2.length c0_2) ∧ w'.cell? (ad290.add ((x7_2).toNat * 3)) = some (.int .i64 ((rd_T32 x5_1 x7_2).f0)) ∧ w'.cell? ⟨(ad290.add ((x7_2).toNat * 3)).block, (ad290.add ((x7_2).toNat * 3)).off + 1, none⟩ = some (.int .i64 ((rd_T32 x5_1 x7_2).f1)) ∧ w'.cell? ⟨(ad290.add ((x7_2).toNat * 3)).block, (ad290.add ((x7_2).toNat * 3)).off + 2, none⟩ = some (.slice A290_2 ((rd_T32 x5_1 x7_2).f2).length c290_2)) (ds := []) #[false, false, false, false, false, false] (by kernel_rfl) rfl rfl ⟨(blk_cell BK274.out 0).trans rfl, (blk_cell BK274.out 1).trans rfl, (blk_cell BK274.out 2).trans rfl, hx290_0, hx290_1, hx290_2⟩ (fun hHeld => ?_)
          generalize wr.drew = w28 at HO_4 HO_5 BK274 HB HL290_2 HR290_2 hx290_0 hx290_1 hx290_2 hHeld ⊢
          refine zP 0 (N := some 32) (h := ?_)
          refine zP 1 (N := some 33) (h := ?_)
          refine zP 2 (N := some 34) (h := ?_)
          refine zT 3 hHeld (N := some 35) (h := ?_)
          refine zT 4 hHeld (N := some 36) (h := ?_)
          refine one_ (i := 5) (N := some 37) #[true, true, true, true, true, true] rfl rfl (by kernel_rfl) (by decide) (fun K hK => ?_)
          refine goes_ Try.func82 (by kernel_rfl) rfl #[.agg #[.int .i64 ((rd_T32 x5_1 x7_2).f0), .int .i64 ((rd_T32 x5_1 x7_2).f1), .slice A290_2 ((rd_T32 x5_1 x7_2).f2).length c290_2], .agg #[.int .i64 a0_0, .int .i64 a0_1, .slice A0_2 l0_2.length c0_2]] (by rfl) rfl rfl zM ?_
          with_reducible refine (spec_l09Same.calls k2 ((rd_T32 x5_1 x7_2).f0) ((rd_T32 x5_1 x7_2).f1) _ _ ((rd_T32 x5_1 x7_2).f2) a0_0 a0_1 _ _ l0_2 false _ ?side1 ?side2 ?side3 ?side4 A21.out).mono ?_
          (case side1 => repeat (exact (by repeat ((with_reducible exact HR290_2.out)))))
          (case side2 => exact HC290_2.out)
          (case side3 => repeat (exact (Kd.C_below HR0_2.out HB.out)))
          (case side4 => exact HC0_2.out)
          rintro e w30 ⟨rfl, hb⟩
          have HS3_ := (hb.cell (World.block_lt_of_cell? _ _ (hHeld.2.2.2.1))).trans (hHeld.2.2.2.1)
          have HS4_ := (hb.cell (World.block_lt_of_cell? _ _ (hHeld.2.2.2.2.1))).trans (hHeld.2.2.2.2.1)
          have HS5_ := (hb.cell (World.block_lt_of_cell? _ _ (hHeld.2.2.2.2.2))).trans (hHeld.2.2.2.2.2)
          refine ⟨_, rfl, ?_⟩
          replace HO_4 := zA (Kd.N_below (by exact HO_4.out) hb)
          replace HO_5 := zA (Kd.N_below (by exact HO_5.out) hb)
          replace HL290_2 := zA (Kd.V_below (by exact HL290_2.out) hb)
          replace BK274 := zA (zW BK274 hb)
          replace HR290_2 := zA (Kd.C_below (by repeat ((with_reducible exact HR290_2.out))) hb)
          replace HB := zA (below_step zB hb)
          (try clear hb)
          (try clear hb2)
          (try clear hk)
          (try clear hi)
          refine hK.out _ _ ⟨(blk_cell BK274.out 0).trans rfl, (blk_cell BK274.out 1).trans rfl, (blk_cell BK274.out 2).trans rfl, HS3_, HS4_, HS5_⟩ (fun hHeld => ?_)
          clear hK K
          refine norm_ (a' := ?_) ?_ ?_
          rotate_left
          ·show Act.put _ (some 37) _ = _
           simp only [Act.put, List.setIfInBounds_toArray, List.set, i64_w, i32_w]
           rfl
          refine done_ (by kernel_rfl) ?_
          try go_wp2
          go_roundg k2
          case measure => have := HK1.out; have := HK2.out; omega
          case rel => exact ⟨(wrap64 (x7_2 + 1)), (by rfl), H', ⟨by have := HK1.out; have := HK2.out; omega⟩, ⟨by exact HO_4.out⟩, ⟨by exact HO_5.out⟩, ⟨zK⟩, ⟨zB⟩⟩
        ·rw [if_neg c20] at H
         exact absurd H (by simp)
       ·rw [if_neg c19] at H
        exact absurd H (by simp)
      ·rw [if_neg c18] at H
       have c18b0 : decide (x7_2 < (x4_1.length : Int)) = false := decide_eq_false c18
       clear c18
       by_cases c31 : x6_1 = a0_1
       ·rw [if_pos c31] at H
        have c31b0 : (x6_1 == a0_1) = true := beq_iff_eq.mpr c31
        have c31b1 : (x6_1 != a0_1) = false := bne_eq_false_iff_eq.mpr c31
        clear c31
        simp only [Option.some.injEq, Prod.mk.injEq] at H
        obtain ⟨rfl, rfl⟩ := H
        obtain ⟨Ao32, co32, eo32⟩ := Kd.N_slice HO_4.out
        subst eo32
        obtain ⟨hcz33_0, hcz33_1, hcz33_2, hfz33_0, hfz33_1, hfz33_2⟩ := zC3 BK274
        go_wp2
        go_ret2
        exact ⟨.slice none 0 0, by rfl, Kd.R_V (base := 0) (by exact Kd.R_nil _ _ _ _ _), zB⟩
       ·rw [if_neg c31] at H
        have c31b0 : (x6_1 == a0_1) = false := beq_eq_false_iff_ne.mpr c31
        have c31b1 : (x6_1 != a0_1) = true := bne_iff_ne.mpr c31
        obtain ⟨y293, hy293⟩ : ∃ y_ : List (List Int), y_ = (([] : List (List Int))) := ⟨_, rfl⟩
        replace H : (spec_WordOfSignature.l2 k2 x4_1 x5_1 x6_1 y293 (([] : List (S32))) 0 a0_0 a0_1 l0_2) = some (r1, r2) := by (rw [hy293]; with_reducible exact H)
        have Ny293 := zA hy293
        clear hy293
        obtain ⟨y296, hy296⟩ : ∃ y_ : List (S32), y_ = (([] : List (S32))) := ⟨_, rfl⟩
        replace H : (spec_WordOfSignature.l2 k2 x4_1 x5_1 x6_1 y293 y296 0 a0_0 a0_1 l0_2) = some (r1, r2) := by (rw [hy296]; with_reducible exact H)
        have Ny296 := zA hy296
        clear hy296
        have H' := zA H
        clear H
        obtain ⟨Ao34, co34, eo34⟩ := Kd.N_slice HO_4.out
        subst eo34
        obtain ⟨hcz35_0, hcz35_1, hcz35_2, hfz35_0, hfz35_1, hfz35_2⟩ := zC3 BK274
        go_wp2_with (first | ((with_reducible refine gate_dst (N := 46) rfl ?_); refine Kd.N_lit (Kd.slice 2 (Kd.int .i64)) _ 48 ?hg (N' := 46) ?hd (xs := ([] : List (List Int))) (inner := []) (ok := (fun k_ => (w.heap.size ≤ k_) ∧ some k_ ≠ (.slice Ao34 x4_1.length co34 : Value).ownBlock ∧ some k_ ≠ (u5 : Value).ownBlock ∧ k_ ≠ gb274)) (okp := (fun k_ => (w.heap.size ≤ k_) ∧ some k_ ≠ (.slice Ao34 x4_1.length co34 : Value).ownBlock ∧ some k_ ≠ (u5 : Value).ownBlock ∧ k_ ≠ gb274)) ?hr ?hp (fun _ hk => hk) ((show ∀ k_, wr.heap.size ≤ k_ → (fun k_ => (w.heap.size ≤ k_) ∧ some k_ ≠ (.slice Ao34 x4_1.length co34 : Value).ownBlock ∧ some k_ ≠ (u5 : Value).ownBlock ∧ k_ ≠ gb274) k_ from fun k_ hk => ⟨(Nat.le_trans (below_size zB) hk), Kd.fresh' (Kd.N_lt (by exact HO_4.out)) k_ hk, Kd.fresh' (Kd.N_lt (by exact HO_5.out)) k_ hk, Kd.freshB (g := gb274) (o := .cells #[.int .i64 a0_0, .int .i64 a0_1, .slice A0_2 l0_2.length c0_2] 32 (0, 0)) zK k_ hk⟩) _ (Nat.le_refl _)) (Below.refl _ _) (Nat.le_refl _) (by simp) ?_; (case hd => rfl); (case hg => rfl); (case hr => (go_simp; done)); (case hp => exact (Reps.none _ _)); intro v294 w36 ho37 hb hg_ hnew_; clear hg_ hnew_; (rw [← Ny293.out] at ho37); have HO295 := zA (Kd.N_lower ho37 (below_size zB)); replace HO_4 := zA (Kd.N_elder' (by exact HO_4.out) (Kd.N_base ho37) hb); replace HO_5 := zA (Kd.N_elder' (by exact HO_5.out) (Kd.N_base ho37) hb); replace BK274 := zA (zW BK274 hb); replace HB := zA (below_step zB hb); clear hb ho37) | ((with_reducible refine gate_dst (N := 47) rfl ?_); refine Kd.N_lit k32 _ 32 ?hg (N' := 47) ?hd (xs := ([] : List (S32))) (inner := []) (ok := (fun k_ => (w.heap.size ≤ k_) ∧ some k_ ≠ (.slice Ao34 x4_1.length co34 : Value).ownBlock ∧ some k_ ≠ (u5 : Value).ownBlock ∧ some k_ ≠ (v294 : Value).ownBlock ∧ k_ ≠ gb274)) (okp := (fun k_ => (w.heap.size ≤ k_) ∧ some k_ ≠ (.slice Ao34 x4_1.length co34 : Value).ownBlock ∧ some k_ ≠ (u5 : Value).ownBlock ∧ some k_ ≠ (v294 : Value).ownBlock ∧ k_ ≠ gb274)) ?hr ?hp (fun _ hk => hk) ((show ∀ k_, w36.heap.size ≤ k_ → (fun k_ => (w.heap.size ≤ k_) ∧ some k_ ≠ (.slice Ao34 x4_1.length co34 : Value).ownBlock ∧ some k_ ≠ (u5 : Value).ownBlock ∧ some k_ ≠ (v294 : Value).ownBlock ∧ k_ ≠ gb274) k_ from fun k_ hk => ⟨(Nat.le_trans (below_size zB) hk), Kd.fresh' (Kd.N_lt (by exact HO_4.out)) k_ hk, Kd.fresh' (Kd.N_lt (by exact HO_5.out)) k_ hk, Kd.fresh' (Kd.N_lt (by exact HO295.out)) k_ hk, Kd.freshB (g := gb274) (o := .cells #[.int .i64 a0_0, .int .i64 a0_1, .slice A0_2 l0_2.length c0_2] 32 (0, 0)) zK k_ hk⟩) _ (Nat.le_refl _)) (Below.refl _ _) (Nat.le_refl _) (by simp) ?_; (case hd => rfl); (case hg => rfl); (case hr => (go_simp; done)); (case hp => exact (Reps.none _ _)); intro v297 w38 ho39 hb hg_ hnew_; clear hg_ hnew_; (rw [← Ny296.out] at ho39); have HO298 := zA (Kd.N_lower ho39 (below_size zB)); replace HO_4 := zA (Kd.N_elder' (by exact HO_4.out) (Kd.N_base ho39) hb); replace HO_5 := zA (Kd.N_elder' (by exact HO_5.out) (Kd.N_base ho39) hb); replace HO295 := zA (Kd.N_elder' (by exact HO295.out) (Kd.N_base ho39) hb); replace BK274 := zA (zW BK274 hb); replace HB := zA (below_step zB hb); clear hb ho39))
        go_loopg [8, 9, 10] k2 (fun kq v8 v9 v10 w' => ∃ (x8_3 : List (List Int)) (x9_3 : List (S32)) (x10_3 : Int), v10 = .int .i64 x10_3 ∧ Aside0 (spec_WordOfSignature.l2 kq x4_1 x5_1 x6_1 x8_3 x9_3 x10_3 a0_0 a0_1 l0_2 = some (r1, r2)) ∧ Aside0 (kq ≤ k2) ∧ Aside0 (Kd.N (Kd.slice 2 (Kd.int .i64)) 48 w' w.heap.size (fun k_ => (w.heap.size ≤ k_) ∧ some k_ ≠ (u5 : Value).ownBlock ∧ some k_ ≠ (v8 : Value).ownBlock ∧ some k_ ≠ (v9 : Value).ownBlock ∧ k_ ≠ gb274) (.slice Ao34 x4_1.length co34) x4_1) ∧ Aside0 (Kd.N k32 32 w' w.heap.size (fun k_ => (w.heap.size ≤ k_) ∧ some k_ ≠ ((.slice Ao34 x4_1.length co34) : Value).ownBlock ∧ some k_ ≠ (v8 : Value).ownBlock ∧ some k_ ≠ (v9 : Value).ownBlock ∧ k_ ≠ gb274) u5 x5_1) ∧ Aside0 (Kd.N (Kd.slice 2 (Kd.int .i64)) 48 w' w.heap.size (fun k_ => (w.heap.size ≤ k_) ∧ some k_ ≠ ((.slice Ao34 x4_1.length co34) : Value).ownBlock ∧ some k_ ≠ (u5 : Value).ownBlock ∧ some k_ ≠ (v9 : Value).ownBlock ∧ k_ ≠ gb274) v8 x8_3) ∧ Aside0 (Kd.N k32 32 w' w.heap.size (fun k_ => (w.heap.size ≤ k_) ∧ some k_ ≠ ((.slice Ao34 x4_1.length co34) : Value).ownBlock ∧ some k_ ≠ (u5 : Value).ownBlock ∧ some k_ ≠ (v8 : Value).ownBlock ∧ k_ ≠ gb274) v9 x9_3) ∧ Aside0 (w'.heap[gb274]? = some (.cells #[.int .i64 a0_0, .int .i64 a0_1, (.slice A0_2 l0_2.length c0_2)] 32 (0, 0))) ∧ Aside0 (Below w.heap.size w w'))
        case atStart => exact ⟨(y293), (y296), (0), (by rfl), H', ⟨Nat.le_refl _⟩, ⟨by exact Kd.N_mono HO_4.out (fun _ hk => ⟨hk.1.1.1, ⟨hk.1.1.2.1, ⟨hk.1.2, ⟨hk.2, hk.1.1.2.2⟩⟩⟩⟩)⟩, ⟨by exact Kd.N_mono HO_5.out (fun _ hk => ⟨hk.1.1.1, ⟨hk.1.1.2.1, ⟨hk.1.2, ⟨hk.2, hk.1.1.2.2⟩⟩⟩⟩)⟩, ⟨by exact Kd.N_mono HO295.out (fun _ hk => ⟨hk.1.1, ⟨hk.1.2.1, ⟨hk.1.2.2.1, ⟨hk.2, hk.1.2.2.2⟩⟩⟩⟩)⟩, ⟨by exact HO298.out⟩, ⟨zK⟩, ⟨zB⟩⟩
        case round =>
         clear H'
         obtain ⟨x8_3, x9_3, x10_3, rfl, HA, HK3, HO_4, HO_5, HO_8, HO_9, BK274, HB⟩ := hrel
         cases gk with
         | zero => exact absurd HA.out (by simp [spec_WordOfSignature.l2])
         | succ k3 =>
          have H := HA.out
          clear HA
          simp only [spec_WordOfSignature.l2] at H
          by_cases c40 : x10_3 < (x4_1.length : Int)
          ·rw [if_pos c40] at H
           have c40b0 : decide (x10_3 < (x4_1.length : Int)) = true := decide_eq_true c40
           clear c40
           have H' := zA H
           clear H
           obtain ⟨hcz41_0, hcz41_1, hcz41_2, hfz41_0, hfz41_1, hfz41_2⟩ := zC3 BK274
           go_wp2
           go_loopg [8, 9, 11] k3 (fun kq v8 v9 v11 w' => ∃ (x8_4 : List (List Int)) (x9_4 : List (S32)) (x11_4 : Int), v11 = .int .i64 x11_4 ∧ Aside0 (spec_WordOfSignature.l3 kq x4_1 x5_1 x6_1 x8_4 x9_4 x10_3 x11_4 a0_0 a0_1 l0_2 = some (r1, r2)) ∧ Aside0 (kq ≤ k3) ∧ Aside0 (Kd.N (Kd.slice 2 (Kd.int .i64)) 48 w' w.heap.size (fun k_ => (w.heap.size ≤ k_) ∧ some k_ ≠ (u5 : Value).ownBlock ∧ some k_ ≠ (v8 : Value).ownBlock ∧ some k_ ≠ (v9 : Value).ownBlock ∧ k_ ≠ gb274) (.slice Ao34 x4_1.length co34) x4_1) ∧ Aside0 (Kd.N k32 32 w' w.heap.size (fun k_ => (w.heap.size ≤ k_) ∧ some k_ ≠ ((.slice Ao34 x4_1.length co34) : Value).ownBlock ∧ some k_ ≠ (v8 : Value).ownBlock ∧ some k_ ≠ (v9 : Value).ownBlock ∧ k_ ≠ gb274) u5 x5_1) ∧ Aside0 (Kd.N (Kd.slice 2 (Kd.int .i64)) 48 w' w.heap.size (fun k_ => (w.heap.size ≤ k_) ∧ some k_ ≠ ((.slice Ao34 x4_1.length co34) : Value).ownBlock ∧ some k_ ≠ (u5 : Value).ownBlock ∧ some k_ ≠ (v9 : Value).ownBlock ∧ k_ ≠ gb274) v8 x8_4) ∧ Aside0 (Kd.N k32 32 w' w.heap.size (fun k_ => (w.heap.size ≤ k_) ∧ some k_ ≠ ((.slice Ao34 x4_1.length co34) : Value).ownBlock ∧ some k_ ≠ (u5 : Value).ownBlock ∧ some k_ ≠ (v8 : Value).ownBlock ∧ k_ ≠ gb274) v9 x9_4) ∧ Aside0 (w'.heap[gb274]? = some (.cells #[.int .i64 a0_0, .int .i64 a0_1, (.slice A0_2 l0_2.length c0_2)] 32 (0, 0))) ∧ Aside0 (Below w.heap.size w w'))
           case atStart => exact ⟨(x8_3), (x9_3), (wrap64 (-a0_0)), (by rfl), H', ⟨Nat.le_refl _⟩, ⟨by exact HO_4.out⟩, ⟨by exact HO_5.out⟩, ⟨by exact HO_8.out⟩, ⟨by exact HO_9.out⟩, ⟨zK⟩, ⟨zB⟩⟩
           case round =>
            clear H'
            obtain ⟨x8_4, x9_4, x11_4, rfl, HA, HK4, HO_4, HO_5, HO_8, HO_9, BK274, HB⟩ := hrel
            cases gk with
            | zero => exact absurd HA.out (by simp [spec_WordOfSignature.l3])
            | succ k4 =>
             have H := HA.out
             clear HA
             simp only [spec_WordOfSignature.l3] at H
             by_cases c42 : x11_4 ≤ a0_0
             ·rw [if_pos c42] at H
              have c42b0 : decide (x11_4 ≤ a0_0) = true := decide_eq_true c42
              clear c42
              by_cases c43 : 0 ≤ x10_3
              ·rw [if_pos c43] at H
               have c43b0 : decide (0 ≤ x10_3) = true := decide_eq_true c43
               clear c43
               by_cases c44 : x10_3 < (x4_1.length : Int)
               ·rw [if_pos c44] at H
                have c44b0 : decide (x10_3 < (x4_1.length : Int)) = true := decide_eq_true c44
                clear c44
                have HC45 := zA H
                clear H
                obtain ⟨hcz46_0, hcz46_1, hcz46_2, hfz46_0, hfz46_1, hfz46_2⟩ := zC3 BK274
                have p299 : 0 ≤ (x10_3 : Int) := zD
                have q299 : x10_3 < (x4_1.length : Int) := zD
                obtain ⟨ad299, A299_0, c299_0, e299, hx299_0, hl299_0, hi299_0⟩ := at_L9 (Kd.N_reads' HO_4.out).2.2 x10_3 p299 q299
                cases e299
                obtain ⟨ce299, hce299, hMe299, hcc299⟩ := Kd.N_get HO_4.out [] x10_3 p299 (by exact q299)
                obtain ⟨ua299_0, uc299_0, rfl, ul299_0, ge299_0⟩ := Kd.FK_slice_open hMe299
                have hv299_0 := hcc299 0 _ rfl
                rw [Nat.add_zero, show ((Kd.slice 2 (Kd.int .i64))).sz = 1 from rfl, Nat.mul_one] at hv299_0
                replace hv299_0 := Option.some.inj (hv299_0.symm.trans hx299_0)
                injection hv299_0 with hva_ hvn_ hvc_
                rw [hva_] at ge299_0
                rw [hvc_] at ul299_0
                have HL299_0 := zA (show Kd.V (Kd.int .i64) 2 _ w.heap.size _ _ (rd_L9 x4_1 x10_3) from Kd.V_mk ul299_0 ge299_0)
                clear hva_ hvn_ hvc_ ge299_0 ul299_0
                clear hcc299 hce299
                have HR299_0 := zA hi299_0
                have HC299_0 := zA hl299_0
                clear hi299_0 hl299_0
                replace p299 := eq_true p299
                replace q299 := eq_true q299
                go_upto_region 21 with (fail)
                go_cut [86] (fun v86 wc => ∃ (kq : Nat) (x86_44 : Bool), v86 = .bool x86_44 ∧ Aside0 (spec_WordOfSignature.j4 kq x4_1 x5_1 x6_1 x8_4 x9_4 x10_3 x11_4 x86_44 a0_0 a0_1 l0_2 = some (r1, r2)) ∧ Aside0 (kq ≤ k4) ∧ Aside0 (Kd.N (Kd.slice 2 (Kd.int .i64)) 48 wc w.heap.size (fun k_ => (w.heap.size ≤ k_) ∧ some k_ ≠ (u5 : Value).ownBlock ∧ some k_ ≠ (u8 : Value).ownBlock ∧ some k_ ≠ (u9 : Value).ownBlock ∧ k_ ≠ gb274) (.slice (some ad299) x4_1.length co34) x4_1) ∧ Aside0 (Kd.N k32 32 wc w.heap.size (fun k_ => (w.heap.size ≤ k_) ∧ some k_ ≠ ((.slice (some ad299) x4_1.length co34) : Value).ownBlock ∧ some k_ ≠ (u8 : Value).ownBlock ∧ some k_ ≠ (u9 : Value).ownBlock ∧ k_ ≠ gb274) u5 x5_1) ∧ Aside0 (Kd.N (Kd.slice 2 (Kd.int .i64)) 48 wc w.heap.size (fun k_ => (w.heap.size ≤ k_) ∧ some k_ ≠ ((.slice (some ad299) x4_1.length co34) : Value).ownBlock ∧ some k_ ≠ (u5 : Value).ownBlock ∧ some k_ ≠ (u9 : Value).ownBlock ∧ k_ ≠ gb274) u8 x8_4) ∧ Aside0 (Kd.N k32 32 wc w.heap.size (fun k_ => (w.heap.size ≤ k_) ∧ some k_ ≠ ((.slice (some ad299) x4_1.length co34) : Value).ownBlock ∧ some k_ ≠ (u5 : Value).ownBlock ∧ some k_ ≠ (u8 : Value).ownBlock ∧ k_ ≠ gb274) u9 x9_4) ∧ Aside0 (wc.heap[gb274]? = some (.cells #[.int .i64 a0_0, .int .i64 a0_1, (.slice A0_2 l0_2.length c0_2)] 32 (0, 0))) ∧ Aside0 (Kd.C (Kd.int .i64) wc A299_0 (rd_L9 x4_1 x10_3).length (rd_L9 x4_1 x10_3)) ∧ Aside0 (Below w.heap.size w wc))
                case first =>
                 have H := HC45.out
                 clear HC45
                 by_cases c47 : x11_4 = 0
                 ·rw [if_pos c47] at H
                  have c47b0 : (x11_4 == 0) = true := beq_iff_eq.mpr c47
                  have c47b1 : (x11_4 != 0) = false := bne_eq_false_iff_eq.mpr c47
                  clear c47
                  (skip)
                  have H' := zA H
                  clear H
                  go_wp2
                  go_meet
                  case rel => exact ⟨_, (true), (by rfl), H', ⟨by have := HK1.out; have := HK2.out; have := HK3.out; have := HK4.out; omega⟩, ⟨by exact HO_4.out⟩, ⟨by exact HO_5.out⟩, ⟨by exact HO_8.out⟩, ⟨by exact HO_9.out⟩, ⟨zK⟩, ⟨by repeat ((with_reducible exact HR299_0.out))⟩, ⟨zB⟩⟩
                 ·rw [if_neg c47] at H
                  have c47b0 : (x11_4 == 0) = false := beq_eq_false_iff_ne.mpr c47
                  have c47b1 : (x11_4 != 0) = true := bne_iff_ne.mpr c47
                  (skip)
                  by_cases c48 : ((rd_L9 x4_1 x10_3).length : Int) > 0
                  ·rw [if_pos c48] at H
                   have c48b0 : decide (0 < ((rd_L9 x4_1 x10_3).length : Int)) = true := decide_eq_true c48
                   have c48b1 : decide (0 < (rd_L9 x4_1 x10_3).length) = true := decide_eq_true (by omega)
                   clear c48
                   obtain ⟨ji49, hji49⟩ : ∃ j_ : Int, (wrap64 (((rd_L9 x4_1 x10_3).length : Int) - 1)) = j_ := ⟨_, rfl⟩
                   replace H : (if 0 ≤ (ji49) then (if (ji49) < ((rd_L9 x4_1 x10_3).length : Int) then (spec_WordOfSignature.j4 k4 x4_1 x5_1 x6_1 x8_4 x9_4 x10_3 x11_4 ((rd (rd_L9 x4_1 x10_3) (ji49)) == (wrap64 (-x11_4))) a0_0 a0_1 l0_2) else (none)) else (none)) = some (r1, r2) := by (rw [hji49] at H; exact H)
                   have hji49w : (IntKind.i64.wrap (((rd_L9 x4_1 x10_3).length : Int) - 1)) = ji49 := (i64_w _).trans hji49
                   by_cases c50 : 0 ≤ (ji49)
                   ·rw [if_pos c50] at H
                    have c50b0 : decide (0 ≤ (ji49)) = true := decide_eq_true c50
                    clear c50
                    by_cases c51 : (ji49) < ((rd_L9 x4_1 x10_3).length : Int)
                    ·rw [if_pos c51] at H
                     have c51b0 : decide ((ji49) < ((rd_L9 x4_1 x10_3).length : Int)) = true := decide_eq_true c51
                     clear c51
                     have H' := zA H
                     clear H
                     have p300 : 0 ≤ (x10_3 : Int) := zD
                     have q300 : x10_3 < (x4_1.length : Int) := zD
                     obtain ⟨ad300, A300_0, c300_0, e300, hx300_0, hl300_0, hi300_0⟩ := at_L9 (Kd.N_reads' HO_4.out).2.2 x10_3 p300 q300
                     obtain rfl : ad299 = ad300 := (by injection e300)
                     obtain ⟨ce300, hce300, hMe300, hcc300⟩ := Kd.N_get HO_4.out [] x10_3 p300 (by exact q300)
                     obtain ⟨ua300_0, uc300_0, rfl, ul300_0, ge300_0⟩ := Kd.FK_slice_open hMe300
                     have hv300_0 := hcc300 0 _ rfl
                     rw [Nat.add_zero, show ((Kd.slice 2 (Kd.int .i64))).sz = 1 from rfl, Nat.mul_one] at hv300_0
                     replace hv300_0 := Option.some.inj (hv300_0.symm.trans hx300_0)
                     injection hv300_0 with hva_ hvn_ hvc_
                     rw [hva_] at ge300_0
                     rw [hvc_] at ul300_0
                     have HL300_0 := zA (show Kd.V (Kd.int .i64) 2 _ w.heap.size _ _ (rd_L9 x4_1 x10_3) from Kd.V_mk ul300_0 ge300_0)
                     clear hva_ hvn_ hvc_ ge300_0 ul300_0
                     clear hcc300 hce300
                     have HR300_0 := zA hi300_0
                     have HC300_0 := zA hl300_0
                     clear hi300_0 hl300_0
                     replace p300 := eq_true p300
                     replace q300 := eq_true q300
                     have p301 : 0 ≤ ((ji49) : Int) := zD
                     have q301 : (ji49) < ((rd_L9 x4_1 x10_3).length : Int) := zD
                     have hAA := Option.some.inj ((show wr.cell? _ = some (.slice A299_0 _ c299_0) from by exact hx299_0).symm.trans hx300_0)
                     injection hAA with hAA1 _ hAA2
                     subst hAA1
                     subst hAA2
                     obtain ⟨ad301, e301, hx301_0⟩ := Kd.at_int (by repeat ((with_reducible exact HR300_0.out))) (ji49) p301 q301
                     cases e301
                     replace p301 := eq_true p301
                     replace q301 := eq_true q301
                     go_wp2
                     go_meet
                     case rel => exact ⟨_, (((rd (rd_L9 x4_1 x10_3) (ji49)) == (wrap64 (-x11_4)))), (by rfl), H', ⟨by have := HK1.out; have := HK2.out; have := HK3.out; have := HK4.out; omega⟩, ⟨by exact HO_4.out⟩, ⟨by exact HO_5.out⟩, ⟨by exact HO_8.out⟩, ⟨by exact HO_9.out⟩, ⟨zK⟩, ⟨by repeat ((with_reducible exact HR299_0.out))⟩, ⟨zB⟩⟩
                    ·rw [if_neg c51] at H
                     exact absurd H (by simp)
                   ·rw [if_neg c50] at H
                    exact absurd H (by simp)
                  ·rw [if_neg c48] at H
                   have c48b0 : decide (0 < ((rd_L9 x4_1 x10_3).length : Int)) = false := decide_eq_false c48
                   have c48b1 : decide (0 < (rd_L9 x4_1 x10_3).length) = false := decide_eq_false (by omega)
                   clear c48
                   have H' := zA H
                   clear H
                   go_wp2
                   go_meet
                   case rel => exact ⟨_, (false), (by rfl), H', ⟨by have := HK1.out; have := HK2.out; have := HK3.out; have := HK4.out; omega⟩, ⟨by exact HO_4.out⟩, ⟨by exact HO_5.out⟩, ⟨by exact HO_8.out⟩, ⟨by exact HO_9.out⟩, ⟨zK⟩, ⟨by repeat ((with_reducible exact HR299_0.out))⟩, ⟨zB⟩⟩
                case rest =>
                 clear HC45
                 obtain ⟨kq, x86_44, rfl, HA, HJ44, HO_4, HO_5, HO_8, HO_9, BK274, HR299_0, HB⟩ := hcut
                 cases kq with
                 | zero => exact absurd HA.out (by simp [spec_WordOfSignature.j4])
                 | succ kj44 =>
                  have H := HA.out
                  clear HA
                  simp only [spec_WordOfSignature.j4] at H
                  by_cases c52 : x86_44 = true
                  ·subst c52
                   have H1 : (spec_WordOfSignature.l3 kj44 x4_1 x5_1 x6_1 x8_4 x9_4 x10_3 (wrap64 (x11_4 + 1)) a0_0 a0_1 l0_2) = some (r1, r2) := by rw [if_pos rfl] at H; exact H
                   clear H
                   have H := H1
                   clear H1
                   have H' := zA H
                   clear H
                   go_wp2
                   go_roundg kj44
                   case measure => have := HK1.out; have := HK2.out; have := HK3.out; have := HK4.out; have := HJ44.out; omega
                   case rel => exact ⟨(x8_4), (x9_4), (wrap64 (x11_4 + 1)), (by rfl), H', ⟨by have := HK1.out; have := HK2.out; have := HK3.out; have := HK4.out; have := HJ44.out; omega⟩, ⟨by exact HO_4.out⟩, ⟨by exact HO_5.out⟩, ⟨by exact HO_8.out⟩, ⟨by exact HO_9.out⟩, ⟨zK⟩, ⟨zB⟩⟩
                  ·replace c52 := Bool.eq_false_iff.mpr c52
                   subst c52
                   have H1 : (if 0 ≤ x10_3 then (if x10_3 < (x4_1.length : Int) then ((spec_l01Own.f (rd_L9 x4_1 x10_3)).bind fun t303 => (if t303.length < 17592186044416 then (if x8_4.length < 5864062014805 then (if x10_3 < (x5_1.length : Int) then ((spec_l09Step.f kj44 ((rd_T32 x5_1 x10_3).f0) ((rd_T32 x5_1 x10_3).f1) ((rd_T32 x5_1 x10_3).f2) x11_4).bind fun bt313 => (if x9_4.length < 3518437208883 then (spec_WordOfSignature.l3 kj44 x4_1 x5_1 x6_1 (x8_4 ++ [(t303 ++ [x11_4])]) (x9_4 ++ [(⟨bt313.1, bt313.2.1, bt313.2.2⟩ : S32)]) x10_3 (wrap64 (x11_4 + 1)) a0_0 a0_1 l0_2) else (none))) else (none)) else (none)) else (none))) else (none)) else (none)) = some (r1, r2) := by rw [if_neg (show ¬ (false = true) by decide)] at H; exact H
                   clear H
                   have H := H1
                   clear H1
                   by_cases c53 : 0 ≤ x10_3
                   ·rw [if_pos c53] at H
                    have c53b0 : decide (0 ≤ x10_3) = true := decide_eq_true c53
                    clear c53
                    by_cases c54 : x10_3 < (x4_1.length : Int)
                    ·rw [if_pos c54] at H
                     have c54b0 : decide (x10_3 < (x4_1.length : Int)) = true := decide_eq_true c54
                     clear c54
                     replace H := Option.bind_eq_some_iff.mp H
                     obtain ⟨t303, A550, H⟩ := H
                     replace H : (if t303.length < 17592186044416 then (if x8_4.length < 5864062014805 then (if x10_3 < (x5_1.length : Int) then ((spec_l09Step.f kj44 ((rd_T32 x5_1 x10_3).f0) ((rd_T32 x5_1 x10_3).f1) ((rd_T32 x5_1 x10_3).f2) x11_4).bind fun bt313 => (if x9_4.length < 3518437208883 then (spec_WordOfSignature.l3 kj44 x4_1 x5_1 x6_1 (x8_4 ++ [(t303 ++ [x11_4])]) (x9_4 ++ [(⟨bt313.1, bt313.2.1, bt313.2.2⟩ : S32)]) x10_3 (wrap64 (x11_4 + 1)) a0_0 a0_1 l0_2) else (none))) else (none)) else (none)) else (none)) = some (r1, r2) := H
                     have A55 := zA A550
                     clear A550
                     by_cases c56 : t303.length < 17592186044416
                     ·rw [if_pos c56] at H
                      have LMc56 := zA c56
                      clear c56
                      obtain ⟨y306, hy306⟩ : ∃ y_ : List Int, y_ = (t303 ++ [x11_4]) := ⟨_, rfl⟩
                      replace H : (if x8_4.length < 5864062014805 then (if x10_3 < (x5_1.length : Int) then ((spec_l09Step.f kj44 ((rd_T32 x5_1 x10_3).f0) ((rd_T32 x5_1 x10_3).f1) ((rd_T32 x5_1 x10_3).f2) x11_4).bind fun bt313 => (if x9_4.length < 3518437208883 then (spec_WordOfSignature.l3 kj44 x4_1 x5_1 x6_1 (x8_4 ++ [y306]) (x9_4 ++ [(⟨bt313.1, bt313.2.1, bt313.2.2⟩ : S32)]) x10_3 (wrap64 (x11_4 + 1)) a0_0 a0_1 l0_2) else (none))) else (none)) else (none)) = some (r1, r2) := by (rw [hy306]; with_reducible exact H)
                      have Ny306 := zA hy306
                      clear hy306
                      by_cases c57 : x8_4.length < 5864062014805
                      ·rw [if_pos c57] at H
                       have LMc57 := zA c57
                       clear c57
                       obtain ⟨y309, hy309⟩ : ∃ y_ : List (List Int), y_ = (x8_4 ++ [y306]) := ⟨_, rfl⟩
                       replace H : (if x10_3 < (x5_1.length : Int) then ((spec_l09Step.f kj44 ((rd_T32 x5_1 x10_3).f0) ((rd_T32 x5_1 x10_3).f1) ((rd_T32 x5_1 x10_3).f2) x11_4).bind fun bt313 => (if x9_4.length < 3518437208883 then (spec_WordOfSignature.l3 kj44 x4_1 x5_1 x6_1 y309 (x9_4 ++ [(⟨bt313.1, bt313.2.1, bt313.2.2⟩ : S32)]) x10_3 (wrap64 (x11_4 + 1)) a0_0 a0_1 l0_2) else (none))) else (none)) = some (r1, r2) := by (rw [hy309]; with_reducible exact H)
                       have Ny309 := zA hy309
                       clear hy309
                       by_cases c58 : x10_3 < (x5_1.length : Int)
                       ·rw [if_pos c58] at H
                        have c58b0 : decide (x10_3 < (x5_1.length : Int)) = true := decide_eq_true c58
                        clear c58
                        replace H := Option.bind_eq_some_iff.mp H
                        obtain ⟨⟨t313, t314, t315⟩, A590, H⟩ := H
                        replace H : (if x9_4.length < 3518437208883 then (spec_WordOfSignature.l3 kj44 x4_1 x5_1 x6_1 y309 (x9_4 ++ [(⟨t313, t314, t315⟩ : S32)]) x10_3 (wrap64 (x11_4 + 1)) a0_0 a0_1 l0_2) else (none)) = some (r1, r2) := H
                        have A59 := zA A590
                        clear A590
                        by_cases c60 : x9_4.length < 3518437208883
                        ·rw [if_pos c60] at H
                         have LMc60 := zA c60
                         clear c60
                         obtain ⟨y318, hy318⟩ : ∃ y_ : List (S32), y_ = (x9_4 ++ [(⟨t313, t314, t315⟩ : S32)]) := ⟨_, rfl⟩
                         replace H : (spec_WordOfSignature.l3 kj44 x4_1 x5_1 x6_1 y309 y318 x10_3 (wrap64 (x11_4 + 1)) a0_0 a0_1 l0_2) = some (r1, r2) := by (rw [hy318]; with_reducible exact H)
                         have Ny318 := zA hy318
                         clear hy318
                         have H' := zA H
                         clear H
                         have p302 : 0 ≤ (x10_3 : Int) := zD
                         have q302 : x10_3 < (x4_1.length : Int) := zD
                         obtain ⟨ad302, A302_0, c302_0, e302, hx302_0, hl302_0, hi302_0⟩ := at_L9 (Kd.N_reads' HO_4.out).2.2 x10_3 p302 q302
                         obtain rfl : ad299 = ad302 := (by injection e302)
                         obtain ⟨ce302, hce302, hMe302, hcc302⟩ := Kd.N_get HO_4.out [] x10_3 p302 (by exact q302)
                         obtain ⟨ua302_0, uc302_0, rfl, ul302_0, ge302_0⟩ := Kd.FK_slice_open hMe302
                         have hv302_0 := hcc302 0 _ rfl
                         rw [Nat.add_zero, show ((Kd.slice 2 (Kd.int .i64))).sz = 1 from rfl, Nat.mul_one] at hv302_0
                         replace hv302_0 := Option.some.inj (hv302_0.symm.trans hx302_0)
                         injection hv302_0 with hva_ hvn_ hvc_
                         rw [hva_] at ge302_0
                         rw [hvc_] at ul302_0
                         have HL302_0 := zA (show Kd.V (Kd.int .i64) 2 _ w.heap.size _ _ (rd_L9 x4_1 x10_3) from Kd.V_mk ul302_0 ge302_0)
                         clear hva_ hvn_ hvc_ ge302_0 ul302_0
                         clear hcc302 hce302
                         have HR302_0 := zA hi302_0
                         have HC302_0 := zA hl302_0
                         clear hi302_0 hl302_0
                         replace p302 := eq_true p302
                         replace q302 := eq_true q302
                         go_wp2_with (first | ((with_reducible refine gate_callee (f := 83) rfl ?_); refine goesL_ (some 92) rfl rfl Try.func83 (by kernel_rfl) rfl #[.slice A302_0 (rd_L9 x4_1 x10_3).length c302_0] rfl zM ?_; (with_reducible refine (spec_l01Own.calls _ _ (rd_L9 x4_1 x10_3) t303 _ ?side1 ?side2 A55.out).mono ?_); (case side1 => repeat (exact (by repeat ((with_reducible exact HR302_0.out))))); (case side2 => exact HC302_0.out); rintro e w61 ⟨v304, rfl, ho0, hb⟩; refine ⟨_, rfl, ?_⟩; have HO305 := zA (Kd.R_lower (Kd.R_newM (M := fun k_ => (w.heap.size ≤ k_)) ho0 (below_size zB) (fun k_ h_ => h_)) (below_size zB)); replace HO_4 := zA (Kd.N_elder' (by exact HO_4.out) (Kd.R_base ho0) hb); replace HO_5 := zA (Kd.N_elder' (by exact HO_5.out) (Kd.R_base ho0) hb); replace HO_8 := zA (Kd.N_elder' (by exact HO_8.out) (Kd.R_base ho0) hb); replace HO_9 := zA (Kd.N_elder' (by exact HO_9.out) (Kd.R_base ho0) hb); replace HL302_0 := zA (Kd.V_elder' (by exact HL302_0.out) (Kd.R_base ho0) hb); replace BK274 := zA (zW BK274 hb); replace HR299_0 := zA (Kd.C_below (by repeat ((with_reducible exact HR299_0.out))) hb); replace HR302_0 := zA (Kd.C_below (by repeat ((with_reducible exact HR302_0.out))) hb); replace HB := zA (below_step zB hb); (try clear hb); (try clear hb2); (try clear hk); (try clear hi); (try clear ho0)) | ((with_reducible refine gate_builtin (b := .append) (xs := #[.tmp 92, .tmp 94]) rfl ?_); at_builtin; refine Kd.R_append (Kd.int .i64) (w0 := w) w.heap.size rfl (.tmp 92) (.tmp 94) 48 2 (.int .i64 0) 8 rfl Try.underlying48 info2 rfl (by decide) (by omega) v304 t303 x11_4 [.int .i64 x11_4] (fun k_ => (w.heap.size ≤ k_)) (fun _ => False) rfl rfl ?aP (fun _ hk => hk.elim) ?aF ?aO ?aB ?aS ?aL ?_; (case aP => exact rfl); (case aB => exact zB); (case aF => exact (fun k_ hk => (Nat.le_trans (below_size zB) hk))); (case aO => exact (by exact Kd.R_mono HO305.out (fun _ hk => hk.1))); (case aS => exact (below_size zB)); (case aL => have := LMc56.out; omega); intro v307 w62 ho hb hg hat; rw [← Ny306.out] at ho; have HO308 := zA (ho); replace HO_4 := zA (Kd.N_afterv (ok := (fun k_ => (w.heap.size ≤ k_) ∧ some k_ ≠ (u5 : Value).ownBlock ∧ some k_ ≠ (u8 : Value).ownBlock ∧ some k_ ≠ (u9 : Value).ownBlock ∧ k_ ≠ gb274)) (by exact HO_4.out) hg hat); replace HO_5 := zA (Kd.N_afterv (ok := (fun k_ => (w.heap.size ≤ k_) ∧ some k_ ≠ (.slice (some ad299) x4_1.length co34 : Value).ownBlock ∧ some k_ ≠ (u8 : Value).ownBlock ∧ some k_ ≠ (u9 : Value).ownBlock ∧ k_ ≠ gb274)) (by exact HO_5.out) hg hat); replace HO_8 := zA (Kd.N_afterv (ok := (fun k_ => (w.heap.size ≤ k_) ∧ some k_ ≠ (.slice (some ad299) x4_1.length co34 : Value).ownBlock ∧ some k_ ≠ (u5 : Value).ownBlock ∧ some k_ ≠ (u9 : Value).ownBlock ∧ k_ ≠ gb274)) (by exact HO_8.out) hg hat); replace HO_9 := zA (Kd.N_afterv (ok := (fun k_ => (w.heap.size ≤ k_) ∧ some k_ ≠ (.slice (some ad299) x4_1.length co34 : Value).ownBlock ∧ some k_ ≠ (u5 : Value).ownBlock ∧ some k_ ≠ (u8 : Value).ownBlock ∧ k_ ≠ gb274)) (by exact HO_9.out) hg hat); replace BK274 := zA (blk_grown (g := gb274) (o := .cells #[.int .i64 a0_0, .int .i64 a0_1, .slice A0_2 l0_2.length c0_2] 32 (0, 0)) zK hg (Kd.R_ne HO305.out BK274.out (by decide))); replace HL302_0 := zA (Kd.V_afterv (ok := (fun k_ => (w.heap.size ≤ k_) ∧ some k_ ≠ (.slice (some ad299) x4_1.length co34 : Value).ownBlock ∧ some k_ ≠ (u5 : Value).ownBlock ∧ some k_ ≠ (u8 : Value).ownBlock ∧ some k_ ≠ (u9 : Value).ownBlock ∧ k_ ≠ gb274)) (by exact Kd.V_mono HL302_0.out (fun _ hk => ⟨⟨hk.1.1.1, ⟨hk.1.2, ⟨hk.1.1.2.1, ⟨hk.1.1.2.2.1, ⟨hk.1.1.2.2.2.1, hk.1.1.2.2.2.2⟩⟩⟩⟩⟩, hk.2⟩)) hg hat); replace HB := zA (hb); clear HO305; clear ho hb hg hat; obtain ⟨Ao64, co64, eo64⟩ := Kd.R_slice HO308.out; subst eo64) | ((with_reducible refine gate_builtin (b := .append) (xs := #[.tmp 87, .tmp 96]) rfl ?_); at_builtin; refine Kd.N_append (Kd.slice 2 (Kd.int .i64)) (w0 := w) w.heap.size rfl (.tmp 87) (.tmp 96) 62 48 (.slice none 0 0) 24 rfl Try.underlying62 info48 rfl (by decide) (by omega) u8 x8_4 y306 [.slice Ao64 y306.length co64] (fun k_ => (w.heap.size ≤ k_) ∧ some k_ ≠ (.slice (some ad299) x4_1.length co34 : Value).ownBlock ∧ some k_ ≠ (u5 : Value).ownBlock ∧ some k_ ≠ (u9 : Value).ownBlock ∧ k_ ≠ gb274) (fun k_ => ((fun k_ => (w.heap.size ≤ k_) ∧ some k_ ≠ (.slice (some ad299) x4_1.length co34 : Value).ownBlock ∧ some k_ ≠ (u5 : Value).ownBlock ∧ some k_ ≠ (u9 : Value).ownBlock ∧ k_ ≠ gb274)) k_ ∧ some k_ ≠ (u8 : Value).ownBlock) rfl rfl ?aP (fun _ hk => hk) ?aF ?aO ?aB ?aS ?aL ?_; (case aP => exact (Kd.FK_slice_mk (Kd.R_reads' (Kd.R_mono (ok' := (fun k_ => ((fun k_ => (w.heap.size ≤ k_) ∧ some k_ ≠ (.slice (some ad299) x4_1.length co34 : Value).ownBlock ∧ some k_ ≠ (u5 : Value).ownBlock ∧ some k_ ≠ (u9 : Value).ownBlock ∧ k_ ≠ gb274)) k_ ∧ some k_ ≠ (u8 : Value).ownBlock)) (Kd.R_types (Kd.R_apart' (Kd.R_apart' (Kd.R_apart' (Kd.R_apart' (HO308.out) (Kd.N_typed HO_4.out) (by decide)) (Kd.N_typed HO_5.out) (by decide)) (Kd.N_typed HO_9.out) (by decide)) (Kd.N_typed HO_8.out) (by decide)) BK274.out (by decide)) (fun k_ hk => ⟨⟨hk.1.1.1.1.1, ⟨hk.1.1.1.1.2, ⟨hk.1.1.1.2, ⟨hk.1.1.2, hk.2⟩⟩⟩⟩, hk.1.2⟩))).2.1 (Kd.R_F (Kd.R_mono (ok' := (fun k_ => ((fun k_ => (w.heap.size ≤ k_) ∧ some k_ ≠ (.slice (some ad299) x4_1.length co34 : Value).ownBlock ∧ some k_ ≠ (u5 : Value).ownBlock ∧ some k_ ≠ (u9 : Value).ownBlock ∧ k_ ≠ gb274)) k_ ∧ some k_ ≠ (u8 : Value).ownBlock)) (Kd.R_types (Kd.R_apart' (Kd.R_apart' (Kd.R_apart' (Kd.R_apart' (HO308.out) (Kd.N_typed HO_4.out) (by decide)) (Kd.N_typed HO_5.out) (by decide)) (Kd.N_typed HO_9.out) (by decide)) (Kd.N_typed HO_8.out) (by decide)) BK274.out (by decide)) (fun k_ hk => ⟨⟨hk.1.1.1.1.1, ⟨hk.1.1.1.1.2, ⟨hk.1.1.1.2, ⟨hk.1.1.2, hk.2⟩⟩⟩⟩, hk.1.2⟩))))); (case aB => exact zB); (case aF => exact (fun k_ hk => ⟨(Nat.le_trans (below_size zB) hk), Kd.fresh' (Kd.N_lt (by exact HO_4.out)) k_ hk, Kd.fresh' (Kd.N_lt (by exact HO_5.out)) k_ hk, Kd.fresh' (Kd.N_lt (by exact HO_9.out)) k_ hk, Kd.freshB (g := gb274) (o := .cells #[.int .i64 a0_0, .int .i64 a0_1, .slice A0_2 l0_2.length c0_2] 32 (0, 0)) zK k_ hk⟩)); (case aO => exact (by exact Kd.N_mono HO_8.out (fun _ hk => ⟨hk.1.1, ⟨hk.1.2.1, ⟨hk.1.2.2.1, ⟨hk.1.2.2.2.1, hk.1.2.2.2.2⟩⟩⟩⟩))); (case aS => exact (below_size zB)); (case aL => have := LMc57.out; omega); intro v310 w63 ho hb hg hat; rw [← Ny309.out] at ho; have HO311 := zA (ho); replace HO_4 := zA (Kd.N_afterv (ok := (fun k_ => (w.heap.size ≤ k_) ∧ some k_ ≠ (u5 : Value).ownBlock ∧ some k_ ≠ (u9 : Value).ownBlock ∧ some k_ ≠ (.slice Ao64 y306.length co64 : Value).ownBlock ∧ k_ ≠ gb274)) (by exact Kd.N_mono HO_4.out (fun _ hk => ⟨⟨hk.1.1, ⟨hk.1.2.1, ⟨hk.1.2.2.2.1, ⟨hk.2, hk.1.2.2.2.2⟩⟩⟩⟩, hk.1.2.2.1⟩)) hg hat); replace HO_5 := zA (Kd.N_afterv (ok := (fun k_ => (w.heap.size ≤ k_) ∧ some k_ ≠ (.slice (some ad299) x4_1.length co34 : Value).ownBlock ∧ some k_ ≠ (u9 : Value).ownBlock ∧ some k_ ≠ (.slice Ao64 y306.length co64 : Value).ownBlock ∧ k_ ≠ gb274)) (by exact Kd.N_mono HO_5.out (fun _ hk => ⟨⟨hk.1.1, ⟨hk.1.2.1, ⟨hk.1.2.2.2.1, ⟨hk.2, hk.1.2.2.2.2⟩⟩⟩⟩, hk.1.2.2.1⟩)) hg hat); replace HO_9 := zA (Kd.N_afterv (ok := (fun k_ => (w.heap.size ≤ k_) ∧ some k_ ≠ (.slice (some ad299) x4_1.length co34 : Value).ownBlock ∧ some k_ ≠ (u5 : Value).ownBlock ∧ some k_ ≠ (.slice Ao64 y306.length co64 : Value).ownBlock ∧ k_ ≠ gb274)) (by exact Kd.N_mono HO_9.out (fun _ hk => ⟨⟨hk.1.1, ⟨hk.1.2.1, ⟨hk.1.2.2.1, ⟨hk.2, hk.1.2.2.2.2⟩⟩⟩⟩, hk.1.2.2.2.1⟩)) hg hat); replace BK274 := zA (blk_grown (g := gb274) (o := .cells #[.int .i64 a0_0, .int .i64 a0_1, .slice A0_2 l0_2.length c0_2] 32 (0, 0)) zK hg (Kd.N_ne HO_8.out BK274.out (by decide))); replace HL302_0 := zA (Kd.V_afterv (ok := (fun k_ => (w.heap.size ≤ k_) ∧ some k_ ≠ (.slice (some ad299) x4_1.length co34 : Value).ownBlock ∧ some k_ ≠ (u5 : Value).ownBlock ∧ some k_ ≠ (u9 : Value).ownBlock ∧ some k_ ≠ (.slice Ao64 y306.length co64 : Value).ownBlock ∧ k_ ≠ gb274)) (by exact Kd.V_mono HL302_0.out (fun _ hk => ⟨⟨hk.1.1, ⟨hk.1.2.1, ⟨hk.1.2.2.1, ⟨hk.1.2.2.2.2.1, ⟨hk.2, hk.1.2.2.2.2.2⟩⟩⟩⟩⟩, hk.1.2.2.2.1⟩)) hg hat); replace HB := zA (hb); clear HO_8 HO308; clear ho hb hg hat; obtain ⟨Ao65, co65, eo65⟩ := Kd.N_slice HO_5.out; subst eo65; have p312 : 0 ≤ (x10_3 : Int) := zD; have q312 : x10_3 < (x5_1.length : Int) := zD; obtain ⟨ad312, A312_2, c312_2, e312, hx312_0, hx312_1, hx312_2, hl312_2, hi312_2⟩ := at_T32 (Kd.N_reads' HO_5.out).2.2 x10_3 p312 q312; cases e312; obtain ⟨ce312, hce312, hMe312, hcc312⟩ := Kd.N_get HO_5.out z32 x10_3 p312 (by exact q312); obtain ⟨ua312_2, uc312_2, rfl, ul312_2, ge312_2⟩ := k32_openF hMe312; have hv312_2 := hcc312 2 _ rfl; rw [add_field _ _ 2 (by omega)] at hv312_2; replace hv312_2 := Option.some.inj (hv312_2.symm.trans hx312_2); injection hv312_2 with hva_ hvn_ hvc_; rw [hva_] at ge312_2; rw [hvc_] at ul312_2; have HL312_2 := zA (show Kd.V k89 89 _ w.heap.size _ _ ((rd_T32 x5_1 x10_3).f2) from Kd.V_mk ul312_2 ge312_2); clear hva_ hvn_ hvc_ ge312_2 ul312_2; clear hcc312 hce312; have HR312_2 := zA hi312_2; have HC312_2 := zA hl312_2; clear hi312_2 hl312_2; replace p312 := eq_true p312; replace q312 := eq_true q312) | ((with_reducible refine gate_callee (f := 84) rfl ?_); refine goesL_ (some 104) rfl rfl Try.func84 (by kernel_rfl) rfl #[.agg #[.int .i64 ((rd_T32 x5_1 x10_3).f0), .int .i64 ((rd_T32 x5_1 x10_3).f1), .slice A312_2 ((rd_T32 x5_1 x10_3).f2).length c312_2], .int .i64 x11_4] rfl zM ?_; (with_reducible refine (spec_l09Step.calls kj44 ((rd_T32 x5_1 x10_3).f0) ((rd_T32 x5_1 x10_3).f1) _ _ ((rd_T32 x5_1 x10_3).f2) x11_4 t313 t314 t315 _ ?side1 ?side2 A59.out).mono ?_); (case side1 => repeat (exact (by repeat ((with_reducible exact HR312_2.out))))); (case side2 => exact HC312_2.out); rintro e w66 ⟨v316, rfl, ho0, hb⟩; refine ⟨_, rfl, ?_⟩; have HO317 := zA (Kd.R_lower (Kd.R_newM (M := fun k_ => (w.heap.size ≤ k_)) ho0 (below_size zB) (fun k_ h_ => h_)) (below_size zB)); replace HO_4 := zA (Kd.N_elder' (by exact HO_4.out) (Kd.R_base ho0) hb); replace HO_5 := zA (Kd.N_elder' (by exact HO_5.out) (Kd.R_base ho0) hb); replace HO_9 := zA (Kd.N_elder' (by exact HO_9.out) (Kd.R_base ho0) hb); replace HL302_0 := zA (Kd.V_elder' (by exact HL302_0.out) (Kd.R_base ho0) hb); replace HO311 := zA (Kd.N_elder' (by exact HO311.out) (Kd.R_base ho0) hb); replace HL312_2 := zA (Kd.V_elder' (by exact HL312_2.out) (Kd.R_base ho0) hb); replace BK274 := zA (zW BK274 hb); replace HR312_2 := zA (Kd.C_below (by repeat ((with_reducible exact HR312_2.out))) hb); replace HB := zA (below_step zB hb); (try clear hb); (try clear hb2); (try clear hk); (try clear hi); (try clear ho0); obtain ⟨Ao68, co68, eo68⟩ := Kd.R_slice HO317.out; subst eo68) | ((with_reducible refine gate_builtin (b := .append) (xs := #[.tmp 98, .tmp 105]) rfl ?_); at_builtin; refine Kd.N_append k32 (w0 := w) w.heap.size rfl (.tmp 98) (.tmp 105) 101 32 (.agg #[(.int .i64 0), (.int .i64 0), (.slice none 0 0)]) 40 rfl Try.underlying101 info32 rfl (by decide) (by omega) u9 x9_4 (⟨t313, t314, t315⟩ : S32) [.int .i64 t313, .int .i64 t314, .slice Ao68 t315.length co68] (fun k_ => (w.heap.size ≤ k_) ∧ some k_ ≠ (.slice (some ad299) x4_1.length co34 : Value).ownBlock ∧ some k_ ≠ (.slice (some ad312) x5_1.length co65 : Value).ownBlock ∧ some k_ ≠ (v310 : Value).ownBlock ∧ k_ ≠ gb274) (fun k_ => ((fun k_ => (w.heap.size ≤ k_) ∧ some k_ ≠ (.slice (some ad299) x4_1.length co34 : Value).ownBlock ∧ some k_ ≠ (.slice (some ad312) x5_1.length co65 : Value).ownBlock ∧ some k_ ≠ (v310 : Value).ownBlock ∧ k_ ≠ gb274)) k_ ∧ some k_ ≠ (u9 : Value).ownBlock) rfl rfl ?aP (fun _ hk => hk) ?aF ?aO ?aB ?aS ?aL ?_; (case aP => exact (k32_mkF _ _ (⟨t313, t314, t315⟩ : S32) (Kd.R_reads' (Kd.R_mono (ok' := (fun k_ => ((fun k_ => (w.heap.size ≤ k_) ∧ some k_ ≠ (.slice (some ad299) x4_1.length co34 : Value).ownBlock ∧ some k_ ≠ (.slice (some ad312) x5_1.length co65 : Value).ownBlock ∧ some k_ ≠ (v310 : Value).ownBlock ∧ k_ ≠ gb274)) k_ ∧ some k_ ≠ (u9 : Value).ownBlock)) (Kd.R_types (Kd.R_apart' (Kd.R_apart' (Kd.R_apart' (Kd.R_apart' (HO317.out) (Kd.N_typed HO_4.out) (by decide)) (Kd.N_typed HO_5.out) (by decide)) (Kd.N_typed HO311.out) (by decide)) (Kd.N_typed HO_9.out) (by decide)) BK274.out (by decide)) (fun k_ hk => ⟨⟨hk.1.1.1.1.1.1, ⟨hk.1.1.1.1.2, ⟨hk.1.1.1.2, ⟨hk.1.1.2, hk.2⟩⟩⟩⟩, hk.1.2⟩))).2.1 (Kd.R_F (Kd.R_mono (ok' := (fun k_ => ((fun k_ => (w.heap.size ≤ k_) ∧ some k_ ≠ (.slice (some ad299) x4_1.length co34 : Value).ownBlock ∧ some k_ ≠ (.slice (some ad312) x5_1.length co65 : Value).ownBlock ∧ some k_ ≠ (v310 : Value).ownBlock ∧ k_ ≠ gb274)) k_ ∧ some k_ ≠ (u9 : Value).ownBlock)) (Kd.R_types (Kd.R_apart' (Kd.R_apart' (Kd.R_apart' (Kd.R_apart' (HO317.out) (Kd.N_typed HO_4.out) (by decide)) (Kd.N_typed HO_5.out) (by decide)) (Kd.N_typed HO311.out) (by decide)) (Kd.N_typed HO_9.out) (by decide)) BK274.out (by decide)) (fun k_ hk => ⟨⟨hk.1.1.1.1.1.1, ⟨hk.1.1.1.1.2, ⟨hk.1.1.1.2, ⟨hk.1.1.2, hk.2⟩⟩⟩⟩, hk.1.2⟩))))); (case aB => exact zB); (case aF => exact (fun k_ hk => ⟨(Nat.le_trans (below_size zB) hk), Kd.fresh' (Kd.N_lt (by exact HO_4.out)) k_ hk, Kd.fresh' (Kd.N_lt (by exact HO_5.out)) k_ hk, Kd.fresh' (Kd.N_lt (by exact HO311.out)) k_ hk, Kd.freshB (g := gb274) (o := .cells #[.int .i64 a0_0, .int .i64 a0_1, .slice A0_2 l0_2.length c0_2] 32 (0, 0)) zK k_ hk⟩)); (case aO => exact (by exact Kd.N_mono HO_9.out (fun _ hk => ⟨hk.1.1.1, ⟨hk.1.1.2.1, ⟨hk.1.1.2.2.1, ⟨hk.1.2, hk.1.1.2.2.2.2⟩⟩⟩⟩))); (case aS => exact (below_size zB)); (case aL => have := LMc60.out; omega); intro v319 w67 ho hb hg hat; rw [← Ny318.out] at ho; have HO320 := zA (ho); replace HO_4 := zA (Kd.N_afterv (ok := (fun k_ => (w.heap.size ≤ k_) ∧ some k_ ≠ (.slice (some ad312) x5_1.length co65 : Value).ownBlock ∧ some k_ ≠ (v310 : Value).ownBlock ∧ some k_ ≠ (.slice Ao68 t315.length co68 : Value).ownBlock ∧ k_ ≠ gb274)) (by exact Kd.N_mono HO_4.out (fun _ hk => ⟨⟨hk.1.1.1, ⟨hk.1.1.2.1, ⟨hk.1.2, ⟨hk.2, hk.1.1.2.2.2.2⟩⟩⟩⟩, hk.1.1.2.2.1⟩)) hg hat); replace HO_5 := zA (Kd.N_afterv (ok := (fun k_ => (w.heap.size ≤ k_) ∧ some k_ ≠ (.slice (some ad299) x4_1.length co34 : Value).ownBlock ∧ some k_ ≠ (v310 : Value).ownBlock ∧ some k_ ≠ (.slice Ao68 t315.length co68 : Value).ownBlock ∧ k_ ≠ gb274)) (by exact Kd.N_mono HO_5.out (fun _ hk => ⟨⟨hk.1.1.1, ⟨hk.1.1.2.1, ⟨hk.1.2, ⟨hk.2, hk.1.1.2.2.2.2⟩⟩⟩⟩, hk.1.1.2.2.1⟩)) hg hat); replace BK274 := zA (blk_grown (g := gb274) (o := .cells #[.int .i64 a0_0, .int .i64 a0_1, .slice A0_2 l0_2.length c0_2] 32 (0, 0)) zK hg (Kd.N_away HO_9.out (fun _ hk => hk.1.1.2.2.2.2))); replace HL302_0 := zA (Kd.V_afterv (ok := (fun k_ => (w.heap.size ≤ k_) ∧ some k_ ≠ (.slice (some ad299) x4_1.length co34 : Value).ownBlock ∧ some k_ ≠ (.slice (some ad312) x5_1.length co65 : Value).ownBlock ∧ some k_ ≠ (v310 : Value).ownBlock ∧ some k_ ≠ (.slice Ao68 t315.length co68 : Value).ownBlock ∧ k_ ≠ gb274)) (by exact Kd.V_mono HL302_0.out (fun _ hk => ⟨⟨hk.1.1.1, ⟨hk.1.1.2.1, ⟨hk.1.1.2.2.1, ⟨hk.1.2, ⟨hk.2, hk.1.1.2.2.2.2.2⟩⟩⟩⟩⟩, hk.1.1.2.2.2.1⟩)) hg hat); replace HO311 := zA (Kd.N_afterv (ok := (fun k_ => (w.heap.size ≤ k_) ∧ some k_ ≠ (.slice (some ad299) x4_1.length co34 : Value).ownBlock ∧ some k_ ≠ (.slice (some ad312) x5_1.length co65 : Value).ownBlock ∧ some k_ ≠ (.slice Ao68 t315.length co68 : Value).ownBlock ∧ k_ ≠ gb274)) (by exact Kd.N_mono HO311.out (fun _ hk => ⟨⟨hk.1.1, ⟨hk.1.2.1, ⟨hk.1.2.2.1, ⟨hk.2, hk.1.2.2.2.2⟩⟩⟩⟩, hk.1.2.2.2.1⟩)) hg hat); replace HL312_2 := zA (Kd.V_afterv (ok := (fun k_ => (w.heap.size ≤ k_) ∧ some k_ ≠ (.slice (some ad299) x4_1.length co34 : Value).ownBlock ∧ some k_ ≠ (.slice (some ad312) x5_1.length co65 : Value).ownBlock ∧ some k_ ≠ (v310 : Value).ownBlock ∧ some k_ ≠ (.slice Ao68 t315.length co68 : Value).ownBlock ∧ k_ ≠ gb274)) (by exact Kd.V_mono HL312_2.out (fun _ hk => ⟨⟨hk.1.1.1.1, ⟨hk.1.1.1.2.1, ⟨hk.1.2, ⟨hk.1.1.2, ⟨hk.2, hk.1.1.1.2.2.2.2⟩⟩⟩⟩⟩, hk.1.1.1.2.2.1⟩)) hg hat); replace HB := zA (hb); clear HO_9 HO317; clear ho hb hg hat))
                         go_roundg kj44
                         case measure => have := HK1.out; have := HK2.out; have := HK3.out; have := HK4.out; have := HJ44.out; omega
                         case rel => exact ⟨(y309), (y318), (wrap64 (x11_4 + 1)), (by rfl), H', ⟨by have := HK1.out; have := HK2.out; have := HK3.out; have := HK4.out; have := HJ44.out; omega⟩, ⟨by exact Kd.N_mono HO_4.out (fun _ hk => ⟨hk.1.1, ⟨hk.1.2.1, ⟨hk.1.2.2.1, ⟨hk.2, hk.1.2.2.2.2⟩⟩⟩⟩)⟩, ⟨by exact Kd.N_mono HO_5.out (fun _ hk => ⟨hk.1.1, ⟨hk.1.2.1, ⟨hk.1.2.2.1, ⟨hk.2, hk.1.2.2.2.2⟩⟩⟩⟩)⟩, ⟨by exact Kd.N_mono HO311.out (fun _ hk => ⟨hk.1.1, ⟨hk.1.2.1, ⟨hk.1.2.2.1, ⟨hk.2, hk.1.2.2.2.2⟩⟩⟩⟩)⟩, ⟨by exact HO320.out⟩, ⟨zK⟩, ⟨zB⟩⟩
                        ·rw [if_neg c60] at H
                         exact absurd H (by simp)
                       ·rw [if_neg c58] at H
                        exact absurd H (by simp)
                      ·rw [if_neg c57] at H
                       exact absurd H (by simp)
                     ·rw [if_neg c56] at H
                      exact absurd H (by simp)
                    ·rw [if_neg c54] at H
                     exact absurd H (by simp)
                   ·rw [if_neg c53] at H
                    exact absurd H (by simp)
               ·rw [if_neg c44] at H
                exact absurd H (by simp)
              ·rw [if_neg c43] at H
               exact absurd H (by simp)
             ·rw [if_neg c42] at H
              have c42b0 : decide (x11_4 ≤ a0_0) = false := decide_eq_false c42
              clear c42
              have H' := zA H
              clear H
              obtain ⟨hcz69_0, hcz69_1, hcz69_2, hfz69_0, hfz69_1, hfz69_2⟩ := zC3 BK274
              go_wp2
              go_roundg k4
              case measure => have := HK1.out; have := HK2.out; have := HK3.out; have := HK4.out; omega
              case rel => exact ⟨(x8_4), (x9_4), (wrap64 (x10_3 + 1)), (by rfl), H', ⟨by have := HK1.out; have := HK2.out; have := HK3.out; have := HK4.out; omega⟩, ⟨by exact HO_4.out⟩, ⟨by exact HO_5.out⟩, ⟨by exact HO_8.out⟩, ⟨by exact HO_9.out⟩, ⟨zK⟩, ⟨zB⟩⟩
          ·rw [if_neg c40] at H
           have c40b0 : decide (x10_3 < (x4_1.length : Int)) = false := decide_eq_false c40
           clear c40
           have H' := zA H
           clear H
           go_wp2
           go_roundg k3
           case measure => have := HK1.out; have := HK2.out; have := HK3.out; omega
           case rel => exact ⟨(x8_3), (x9_3), (wrap64 (x6_1 + 1)), (by rfl), H', ⟨by have := HK1.out; have := HK2.out; have := HK3.out; omega⟩, ⟨by exact Kd.N_mono HO_8.out (fun _ hk => ⟨hk.1, ⟨hk.2.2.2.1, hk.2.2.2.2⟩⟩)⟩, ⟨by exact Kd.N_mono HO_9.out (fun _ hk => ⟨hk.1, ⟨hk.2.2.2.1, hk.2.2.2.2⟩⟩)⟩, ⟨zK⟩, ⟨zB⟩⟩
 ·replace c3 := Bool.eq_false_iff.mpr c3
  subst c3
  have H1 : (some (([] : List Int), 1)) = some (r1, r2) := by rw [if_neg (show ¬ (false = true) by decide)] at H; exact H
  clear H
  have H := H1
  clear H1
  simp only [Option.some.injEq, Prod.mk.injEq] at H
  obtain ⟨rfl, rfl⟩ := H
  go_enter Try.func38, Try.ntmps38
  go_wp2_with (first | ((with_reducible refine gate_dst (N := 1) rfl ?_); refine zX 1 (#[.int .i64 a0_0, .int .i64 a0_1, .slice A0_2 l0_2.length c0_2]) 32 ?_; intro gb274 hg w70 hbox hb; have BK274 := zA (hbox); have GW274 := zA (zG : w.heap.size ≤ gb274); have GE274 := zA (zG : w.heap.size ≤ gb274); replace HB := zA (below_step zB hb); clear hb hbox hg; obtain ⟨hcz71_0, hcz71_1, hcz71_2, hfz71_0, hfz71_1, hfz71_2⟩ := zC3 BK274) | ((with_reducible refine gate_callee (f := 52) rfl ?_); refine goesL_ (some 14) rfl rfl Try.func52 (by kernel_rfl) rfl #[.agg #[.int .i64 a0_0, .int .i64 a0_1, .slice A0_2 l0_2.length c0_2]] rfl zM ?_; (with_reducible refine (spec_l01Is.calls k a0_0 a0_1 _ _ l0_2 false _ ?side1 ?side2 A2.out).mono ?_); (case side1 => repeat (exact (Kd.C_below HR0_2.out HB.out))); (case side2 => exact HC0_2.out); rintro e w72 ⟨rfl, hb⟩; refine ⟨_, rfl, ?_⟩; replace BK274 := zA (zW BK274 hb); replace HB := zA (below_step zB hb); (try clear hb); (try clear hb2); (try clear hk); (try clear hi)))
  go_ret2
  exact ⟨.slice none 0 0, by rfl, Kd.R_V (base := 0) (by exact Kd.R_nil _ _ _ _ _), zB⟩

end Go.Proofs.Ytcklefgkbddlhaa.P
