/- What a call of each Go function named below comes to is what the plain Lean function beside it says. Made by a program of this session out of the print of the translation; Lean checks it. -/
import Derived.Test.YtcklefgkbddlhaaPx0
import Derived.Test.YtcklefgkbddlhaaPx1
namespace Go.Proofs.Ytcklefgkbddlhaa.P
open Go.RowKit Go.Proofs.YtcklefgkbddlhaaW.PrintWords Go.Proofs.YtcklefgkbddlhaaW.PrintLast Go.Proofs.YtcklefgkbddlhaaW.PrintMore
attribute [local go_sem] max2_int min2_int max_two min_two max_three min_three max_four min_four   -- for this text's walks alone
set_option linter.unusedVariables false
set_option linter.unusedSimpArgs false
set_option maxHeartbeats 8000000
set_option maxRecDepth 100000

attribute [local go_sem high] eqA89
/-! ### spec_l01One: function 81 -/
def spec_l01One.f (a0 : Int) (a1 : Int) (a2 : ByteArray) : Option (Int × Int × (List (S89))) := some (a0, a1, (([(⟨a2, (⟨1, 1⟩ : S27)⟩ : S89)] : List (S89))))
theorem spec_l01One.calls (a0 : Int) (a1 : Int) (a2 : ByteArray) (r1 : Int) (r2 : Int) (r3 : List (S89)) (w : World) (h : spec_l01One.f a0 a1 a2 = some (r1, r2, r3)) :
 Calls Try.prog 81 #[.int .i64 a0, .int .i64 a1, .string a2] w fun e w' => ∃ v2_ : Value, e = .returned (.agg #[.int .i64 r1, .int .i64 r2, v2_]) ∧ Kd.R k89 89 w' w.heap.size (fun _ => True) v2_ r3 ∧ Below w.heap.size w w' := by
 have hu32 := Try.underlying32
 have hu27 := Try.underlying27
 have hu89 := Try.underlying89
 have HB := zA (Below.refl w.heap.size w)
 have H : (some (a0, a1, (([(⟨a2, (⟨1, 1⟩ : S27)⟩ : S89)] : List (S89))))) = some (r1, r2, r3) := h
 clear h
 obtain ⟨y166, hy166⟩ : ∃ y_ : List (S89), y_ = (([(⟨a2, (⟨1, 1⟩ : S27)⟩ : S89)] : List (S89))) := ⟨_, rfl⟩
 replace H : (some (a0, a1, y166)) = some (r1, r2, r3) := by (rw [hy166]; with_reducible exact H)
 have Ny166 := zA hy166
 clear hy166
 simp only [Option.some.injEq, Prod.mk.injEq] at H
 obtain ⟨rfl, rfl, rfl⟩ := H
 go_enter Try.func81, Try.ntmps81
 go_wp2_with (first | ((with_reducible refine gate_dst (N := 6) rfl ?_); refine zX 6 (#[.int .i64 0, .int .i64 0, .slice none 0 0]) 32 ?_; intro gb165 hg w4 hbox hb; have BK165 := zA (hbox); have GW165 := zA (zG : w.heap.size ≤ gb165); have GE165 := zA (zG : w.heap.size ≤ gb165); replace HB := zA (below_step zB hb); clear hb hbox hg) | ((with_reducible refine gate_dst (N := 12) rfl ?_); refine Kd.R_lit k89 _ 89 ?hg (N := 12) ?hd (xs := ([(⟨a2, (⟨1, 1⟩ : S27)⟩ : S89)] : List (S89))) (inner := [.string a2, .int .i64 1, .int .i64 1]) (ok := fun _ => True) (okp := fun _ => True) ?hr ?hp (fun _ hk => hk) trivial (Below.refl _ _) (Nat.le_refl _) (by simp) ?_; (case hd => rfl); (case hg => rfl); (case hr => (go_simp; done)); (case hp => exact (Reps.c3 (show Kd.M k89 _ _ _ (⟨a2, (⟨1, 1⟩ : S27)⟩ : S89) [.string a2, .int .i64 1, .int .i64 1] from (k89_mkM _ _ _ (⟨a2, (⟨1, 1⟩ : S27)⟩ : S89) )) (Reps.none _ _))); intro v167 w5 ho6 hb hg_ hnew_; clear hg_ hnew_; (rw [← Ny166.out] at ho6); have HO168 := zA (Kd.R_lower ho6 (below_size zB)); replace BK165 := zA (zW BK165 hb); replace HB := zA (below_step zB hb); clear hb ho6; obtain ⟨Ao7, co7, eo7⟩ := Kd.R_slice HO168.out; subst eo7; obtain ⟨hcz8_0, hcz8_1, hcz8_2, hfz8_0, hfz8_1, hfz8_2⟩ := zC3 BK165))
 refine bodyPost_ret (results_cell_row rfl _ _ gb165 32 #[.int .i64 a0, .int .i64 a1, .slice Ao7 y166.length co7] (0, 0) _ rfl (by refine blk_put (cs := #[.int .i64 a0, .int .i64 a1, .slice none 0 0]) ?_ 2 _ rfl; refine blk_put (cs := #[.int .i64 a0, .int .i64 0, .slice none 0 0]) ?_ 1 _ rfl; refine blk_put (cs := #[.int .i64 0, .int .i64 0, .slice none 0 0]) ?_ 0 _ rfl; exact zK) Try.underlying32 rfl (by kernel_rfl)) rfl ?_
 exact ⟨_, by rfl, by exact Kd.R_mono (Kd.R_far (p := ⟨gb165, 2, none⟩) (Kd.R_far (p := ⟨gb165, 1, none⟩) (Kd.R_far (p := ⟨gb165, 0, none⟩) (Kd.R_types HO168.out BK165.out (by decide)) (fun _ hk => hk.2) (.int .i64 a0)) (fun _ hk => hk.2) (.int .i64 a1)) (fun _ hk => hk.2) (.slice Ao7 y166.length co7)) (fun _ hk => trivial), zB⟩


/-! ### spec_l09Same: function 82 -/
def spec_l09Same.l0 : Nat → Int → Int → Int → List (S89) → Int → Int → List (S89) → Option (Bool)
 | 0, _, _, _, _, _, _, _ => none
 | k + 1, x5, x170000, x170001, x170002, x171000, x171001, x171002 => if x5 < (x170002.length : Int) then (if 0 ≤ x5 then (if x5 < (x171002.length : Int) then (if (!((((rd_T89 x170002 x5).f0).toList) == (((rd_T89 x171002 x5).f0).toList)) || ((!(((rd_T89 x170002 x5).f1.f0) == ((rd_T89 x171002 x5).f1.f0)) || (!(((rd_T89 x170002 x5).f1.f1) == ((rd_T89 x171002 x5).f1.f1)))))) = true then (some false) else (spec_l09Same.l0 k (wrap64 (x5 + 1)) x170000 x170001 x170002 x171000 x171001 x171002)) else (none)) else (none)) else (some true)
def spec_l09Same.f (k : Nat) (a0_0 : Int) (a0_1 : Int) (l0_2 : List (S89)) (a1_0 : Int) (a1_1 : Int) (l1_2 : List (S89)) : Option (Bool) := if (l0_2.length : Int) = (l1_2.length : Int) then (spec_l09Same.l0 k 0 a0_0 a0_1 l0_2 a1_0 a1_1 l1_2) else (some false)
theorem spec_l09Same.calls (k : Nat) (a0_0 : Int) (a0_1 : Int) (A0_2 : Option Addr) (c0_2 : Nat) (l0_2 : List (S89)) (a1_0 : Int) (a1_1 : Int) (A1_2 : Option Addr) (c1_2 : Nat) (l1_2 : List (S89)) (r : Bool) (w : World) (hr0_2 : Kd.C k89 w A0_2 l0_2.length l0_2) (hc0_2 : l0_2.length ≤ c0_2) (hr1_2 : Kd.C k89 w A1_2 l1_2.length l1_2) (hc1_2 : l1_2.length ≤ c1_2) (h : spec_l09Same.f k a0_0 a0_1 l0_2 a1_0 a1_1 l1_2 = some r) :
 Calls Try.prog 82 #[.agg #[.int .i64 a0_0, .int .i64 a0_1, .slice A0_2 l0_2.length c0_2], .agg #[.int .i64 a1_0, .int .i64 a1_1, .slice A1_2 l1_2.length c1_2]] w fun e w' => e = .returned (.bool r) ∧ Below w.heap.size w w' := by
 have hu32 := Try.underlying32
 have hu89 := Try.underlying89
 have HR0_2 := zA hr0_2
 have HC0_2 := zA hc0_2
 clear hr0_2 hc0_2
 have HR1_2 := zA hr1_2
 have HC1_2 := zA hc1_2
 clear hr1_2 hc1_2
 have HB := zA (Below.refl w.heap.size w)
 have H : (if (l0_2.length : Int) = (l1_2.length : Int) then (spec_l09Same.l0 k 0 a0_0 a0_1 l0_2 a1_0 a1_1 l1_2) else (some false)) = some r := h
 clear h
 by_cases c3 : (l0_2.length : Int) = (l1_2.length : Int)
 ·rw [if_pos c3] at H
  have c3b0 : ((l0_2.length : Int) == (l1_2.length : Int)) = true := beq_iff_eq.mpr c3
  have c3b1 : ((l0_2.length : Int) != (l1_2.length : Int)) = false := bne_eq_false_iff_eq.mpr c3
  have c3b2 : (l0_2.length == l1_2.length) = true := by (simp at c3 ⊢; omega)
  clear c3
  have H' := zA H
  clear H
  go_enter Try.func82, Try.ntmps82
  go_wp2_with (first | ((with_reducible refine gate_dst (N := 2) rfl ?_); refine zX 2 (#[.int .i64 a0_0, .int .i64 a0_1, .slice A0_2 l0_2.length c0_2]) 32 ?_; intro gb169 hg w4 hbox hb; have BK169 := zA (hbox); have GW169 := zA (zG : w.heap.size ≤ gb169); have GE169 := zA (zG : w.heap.size ≤ gb169); replace HB := zA (below_step zB hb); clear hb hbox hg) | ((with_reducible refine gate_dst (N := 3) rfl ?_); refine zX 3 (#[.int .i64 a1_0, .int .i64 a1_1, .slice A1_2 l1_2.length c1_2]) 32 ?_; intro gb170 hg w5 hbox hb; have BK170 := zA (hbox); have GW170 := zA (zG : w.heap.size ≤ gb170); have GE170 := zA (zG : w.heap.size ≤ gb170); have NB169_170 := zA (zU BK169 hg); have NB170_169 := zA (zV BK169 hg); replace BK169 := zA (zW BK169 hb); replace HB := zA (below_step zB hb); clear hb hbox hg; have hnb6 := NB169_170.out; have hnc6 := NB170_169.out; obtain ⟨hcz7_0, hcz7_1, hcz7_2, hfz7_0, hfz7_1, hfz7_2⟩ := zC3 BK169; obtain ⟨hcz8_0, hcz8_1, hcz8_2, hfz8_0, hfz8_1, hfz8_2⟩ := zC3 BK170))
  repeat (go_quiet (first | ((with_reducible refine gate_dst (N := 2) rfl ?_); refine zX 2 (#[.int .i64 a0_0, .int .i64 a0_1, .slice A0_2 l0_2.length c0_2]) 32 ?_; intro gb169 hg w4 hbox hb; have BK169 := zA (hbox); have GW169 := zA (zG : w.heap.size ≤ gb169); have GE169 := zA (zG : w.heap.size ≤ gb169); replace HB := zA (below_step zB hb); clear hb hbox hg) | ((with_reducible refine gate_dst (N := 3) rfl ?_); refine zX 3 (#[.int .i64 a1_0, .int .i64 a1_1, .slice A1_2 l1_2.length c1_2]) 32 ?_; intro gb170 hg w5 hbox hb; have BK170 := zA (hbox); have GW170 := zA (zG : w.heap.size ≤ gb170); have GE170 := zA (zG : w.heap.size ≤ gb170); have NB169_170 := zA (zU BK169 hg); have NB170_169 := zA (zV BK169 hg); replace BK169 := zA (zW BK169 hb); replace HB := zA (below_step zB hb); clear hb hbox hg; have hnb6 := NB169_170.out; have hnc6 := NB170_169.out; obtain ⟨hcz7_0, hcz7_1, hcz7_2, hfz7_0, hfz7_1, hfz7_2⟩ := zC3 BK169; obtain ⟨hcz8_0, hcz8_1, hcz8_2, hfz8_0, hfz8_1, hfz8_2⟩ := zC3 BK170)); try go_wp2_with (first | ((with_reducible refine gate_dst (N := 2) rfl ?_); refine zX 2 (#[.int .i64 a0_0, .int .i64 a0_1, .slice A0_2 l0_2.length c0_2]) 32 ?_; intro gb169 hg w4 hbox hb; have BK169 := zA (hbox); have GW169 := zA (zG : w.heap.size ≤ gb169); have GE169 := zA (zG : w.heap.size ≤ gb169); replace HB := zA (below_step zB hb); clear hb hbox hg) | ((with_reducible refine gate_dst (N := 3) rfl ?_); refine zX 3 (#[.int .i64 a1_0, .int .i64 a1_1, .slice A1_2 l1_2.length c1_2]) 32 ?_; intro gb170 hg w5 hbox hb; have BK170 := zA (hbox); have GW170 := zA (zG : w.heap.size ≤ gb170); have GE170 := zA (zG : w.heap.size ≤ gb170); have NB169_170 := zA (zU BK169 hg); have NB170_169 := zA (zV BK169 hg); replace BK169 := zA (zW BK169 hb); replace HB := zA (below_step zB hb); clear hb hbox hg; have hnb6 := NB169_170.out; have hnc6 := NB170_169.out; obtain ⟨hcz7_0, hcz7_1, hcz7_2, hfz7_0, hfz7_1, hfz7_2⟩ := zC3 BK169; obtain ⟨hcz8_0, hcz8_1, hcz8_2, hfz8_0, hfz8_1, hfz8_2⟩ := zC3 BK170)))
  go_loopg [5] k (fun kq v5 w' => ∃ (x5_1 : Int), v5 = .int .i64 x5_1 ∧ Aside0 (spec_l09Same.l0 kq x5_1 a0_0 a0_1 l0_2 a1_0 a1_1 l1_2 = some r) ∧ Aside0 (kq ≤ k) ∧ Aside0 (w'.heap[gb169]? = some (.cells #[.int .i64 a0_0, .int .i64 a0_1, (.slice A0_2 l0_2.length c0_2)] 32 (0, 0))) ∧ Aside0 (w'.heap[gb170]? = some (.cells #[.int .i64 a1_0, .int .i64 a1_1, (.slice A1_2 l1_2.length c1_2)] 32 (0, 0))) ∧ Aside0 (Below w.heap.size w w'))
  case atStart => exact ⟨(0), (by rfl), H', ⟨Nat.le_refl _⟩, ⟨zK⟩, ⟨zK⟩, ⟨zB⟩⟩
  case round =>
   clear H'
   obtain ⟨x5_1, rfl, HA, HK1, BK169, BK170, HB⟩ := hrel
   cases gk with
   | zero => exact absurd HA.out (by simp [spec_l09Same.l0])
   | succ k1 =>
    have H := HA.out
    clear HA
    simp only [spec_l09Same.l0] at H
    by_cases c9 : x5_1 < (l0_2.length : Int)
    ·rw [if_pos c9] at H
     have c9b0 : decide (x5_1 < (l0_2.length : Int)) = true := decide_eq_true c9
     clear c9
     by_cases c10 : 0 ≤ x5_1
     ·rw [if_pos c10] at H
      have c10b0 : decide (0 ≤ x5_1) = true := decide_eq_true c10
      clear c10
      by_cases c11 : x5_1 < (l1_2.length : Int)
      ·rw [if_pos c11] at H
       have c11b0 : decide (x5_1 < (l1_2.length : Int)) = true := decide_eq_true c11
       clear c11
       by_cases c12 : (!((((rd_T89 l0_2 x5_1).f0).toList) == (((rd_T89 l1_2 x5_1).f0).toList)) || ((!(((rd_T89 l0_2 x5_1).f1.f0) == ((rd_T89 l1_2 x5_1).f1.f0)) || (!(((rd_T89 l0_2 x5_1).f1.f1) == ((rd_T89 l1_2 x5_1).f1.f1)))))) = true
       ·rw [if_pos c12] at H
        have c12b0 : (!((((rd_T89 l0_2 x5_1).f0).toList) == (((rd_T89 l1_2 x5_1).f0).toList)) || ((!(((rd_T89 l0_2 x5_1).f1.f0) == ((rd_T89 l1_2 x5_1).f1.f0)) || (!(((rd_T89 l0_2 x5_1).f1.f1) == ((rd_T89 l1_2 x5_1).f1.f1)))))) = true := c12
        clear c12
        obtain rfl := Option.some.inj H
        have hnb13 := NB169_170.out
        have hnc13 := NB170_169.out
        obtain ⟨hcz14_0, hcz14_1, hcz14_2, hfz14_0, hfz14_1, hfz14_2⟩ := zC3 BK169
        have p171 : 0 ≤ (x5_1 : Int) := zD
        have q171 : x5_1 < (l0_2.length : Int) := zD
        obtain ⟨ad171, e171, hx171_0, hx171_1, hx171_2⟩ := at_T89 HR0_2.out x5_1 p171 q171
        cases e171
        replace hx171_0 := zH HB hx171_0
        replace hx171_1 := zH HB hx171_1
        replace hx171_2 := zH HB hx171_2
        replace p171 := eq_true p171
        replace q171 := eq_true q171
        obtain ⟨hcz15_0, hcz15_1, hcz15_2, hfz15_0, hfz15_1, hfz15_2⟩ := zC3 BK170
        have p172 : 0 ≤ (x5_1 : Int) := zD
        have q172 : x5_1 < (l1_2.length : Int) := zD
        obtain ⟨ad172, e172, hx172_0, hx172_1, hx172_2⟩ := at_T89 HR1_2.out x5_1 p172 q172
        cases e172
        replace hx172_0 := zH HB hx172_0
        replace hx172_1 := zH HB hx172_1
        replace hx172_2 := zH HB hx172_2
        replace p172 := eq_true p172
        replace q172 := eq_true q172
        go_wp2
        repeat (go_quiet (fail); try go_wp2)
        go_ret
        exact ⟨by rfl, zB⟩
       ·rw [if_neg c12] at H
        have c12b0 : (!((((rd_T89 l0_2 x5_1).f0).toList) == (((rd_T89 l1_2 x5_1).f0).toList)) || ((!(((rd_T89 l0_2 x5_1).f1.f0) == ((rd_T89 l1_2 x5_1).f1.f0)) || (!(((rd_T89 l0_2 x5_1).f1.f1) == ((rd_T89 l1_2 x5_1).f1.f1)))))) = false := by simpa using c12
        clear c12
        have H' := zA H
        clear H
        have hnb16 := NB169_170.out
        have hnc16 := NB170_169.out
        obtain ⟨hcz17_0, hcz17_1, hcz17_2, hfz17_0, hfz17_1, hfz17_2⟩ := zC3 BK169
        have p171 : 0 ≤ (x5_1 : Int) := zD
        have q171 : x5_1 < (l0_2.length : Int) := zD
        obtain ⟨ad171, e171, hx171_0, hx171_1, hx171_2⟩ := at_T89 HR0_2.out x5_1 p171 q171
        cases e171
        replace hx171_0 := zH HB hx171_0
        replace hx171_1 := zH HB hx171_1
        replace hx171_2 := zH HB hx171_2
        replace p171 := eq_true p171
        replace q171 := eq_true q171
        obtain ⟨hcz18_0, hcz18_1, hcz18_2, hfz18_0, hfz18_1, hfz18_2⟩ := zC3 BK170
        have p172 : 0 ≤ (x5_1 : Int) := zD
        have q172 : x5_1 < (l1_2.length : Int) := zD
        obtain ⟨ad172, e172, hx172_0, hx172_1, hx172_2⟩ := at_T89 HR1_2.out x5_1 p172 q172
        cases e172
        replace hx172_0 := zH HB hx172_0
        replace hx172_1 := zH HB hx172_1
        replace hx172_2 := zH HB hx172_2
        replace p172 := eq_true p172
        replace q172 := eq_true q172
        go_wp2
        repeat (go_quiet (fail); try go_wp2)
        go_roundg k1
        case measure => have := HK1.out; omega
        case rel => exact ⟨(wrap64 (x5_1 + 1)), (by rfl), H', ⟨by have := HK1.out; omega⟩, ⟨zK⟩, ⟨zK⟩, ⟨zB⟩⟩
      ·rw [if_neg c11] at H
       exact absurd H (by simp)
     ·rw [if_neg c10] at H
      exact absurd H (by simp)
    ·rw [if_neg c9] at H
     have c9b0 : decide (x5_1 < (l0_2.length : Int)) = false := decide_eq_false c9
     clear c9
     obtain rfl := Option.some.inj H
     have hnb19 := NB169_170.out
     have hnc19 := NB170_169.out
     obtain ⟨hcz20_0, hcz20_1, hcz20_2, hfz20_0, hfz20_1, hfz20_2⟩ := zC3 BK169
     go_wp2
     repeat (go_quiet (fail); try go_wp2)
     go_ret
     exact ⟨by rfl, zB⟩
 ·rw [if_neg c3] at H
  have c3b0 : ((l0_2.length : Int) == (l1_2.length : Int)) = false := beq_eq_false_iff_ne.mpr c3
  have c3b1 : ((l0_2.length : Int) != (l1_2.length : Int)) = true := bne_iff_ne.mpr c3
  have c3b2 : (l0_2.length == l1_2.length) = false := by (simp at c3 ⊢; omega)
  obtain rfl := Option.some.inj H
  go_enter Try.func82, Try.ntmps82
  go_wp2_with (first | ((with_reducible refine gate_dst (N := 2) rfl ?_); refine zX 2 (#[.int .i64 a0_0, .int .i64 a0_1, .slice A0_2 l0_2.length c0_2]) 32 ?_; intro gb169 hg w21 hbox hb; have BK169 := zA (hbox); have GW169 := zA (zG : w.heap.size ≤ gb169); have GE169 := zA (zG : w.heap.size ≤ gb169); replace HB := zA (below_step zB hb); clear hb hbox hg) | ((with_reducible refine gate_dst (N := 3) rfl ?_); refine zX 3 (#[.int .i64 a1_0, .int .i64 a1_1, .slice A1_2 l1_2.length c1_2]) 32 ?_; intro gb170 hg w22 hbox hb; have BK170 := zA (hbox); have GW170 := zA (zG : w.heap.size ≤ gb170); have GE170 := zA (zG : w.heap.size ≤ gb170); have NB169_170 := zA (zU BK169 hg); have NB170_169 := zA (zV BK169 hg); replace BK169 := zA (zW BK169 hb); replace HB := zA (below_step zB hb); clear hb hbox hg; have hnb23 := NB169_170.out; have hnc23 := NB170_169.out; obtain ⟨hcz24_0, hcz24_1, hcz24_2, hfz24_0, hfz24_1, hfz24_2⟩ := zC3 BK169; obtain ⟨hcz25_0, hcz25_1, hcz25_2, hfz25_0, hfz25_1, hfz25_2⟩ := zC3 BK170))
  repeat (go_quiet (first | ((with_reducible refine gate_dst (N := 2) rfl ?_); refine zX 2 (#[.int .i64 a0_0, .int .i64 a0_1, .slice A0_2 l0_2.length c0_2]) 32 ?_; intro gb169 hg w21 hbox hb; have BK169 := zA (hbox); have GW169 := zA (zG : w.heap.size ≤ gb169); have GE169 := zA (zG : w.heap.size ≤ gb169); replace HB := zA (below_step zB hb); clear hb hbox hg) | ((with_reducible refine gate_dst (N := 3) rfl ?_); refine zX 3 (#[.int .i64 a1_0, .int .i64 a1_1, .slice A1_2 l1_2.length c1_2]) 32 ?_; intro gb170 hg w22 hbox hb; have BK170 := zA (hbox); have GW170 := zA (zG : w.heap.size ≤ gb170); have GE170 := zA (zG : w.heap.size ≤ gb170); have NB169_170 := zA (zU BK169 hg); have NB170_169 := zA (zV BK169 hg); replace BK169 := zA (zW BK169 hb); replace HB := zA (below_step zB hb); clear hb hbox hg; have hnb23 := NB169_170.out; have hnc23 := NB170_169.out; obtain ⟨hcz24_0, hcz24_1, hcz24_2, hfz24_0, hfz24_1, hfz24_2⟩ := zC3 BK169; obtain ⟨hcz25_0, hcz25_1, hcz25_2, hfz25_0, hfz25_1, hfz25_2⟩ := zC3 BK170)); try go_wp2_with (first | ((with_reducible refine gate_dst (N := 2) rfl ?_); refine zX 2 (#[.int .i64 a0_0, .int .i64 a0_1, .slice A0_2 l0_2.length c0_2]) 32 ?_; intro gb169 hg w21 hbox hb; have BK169 := zA (hbox); have GW169 := zA (zG : w.heap.size ≤ gb169); have GE169 := zA (zG : w.heap.size ≤ gb169); replace HB := zA (below_step zB hb); clear hb hbox hg) | ((with_reducible refine gate_dst (N := 3) rfl ?_); refine zX 3 (#[.int .i64 a1_0, .int .i64 a1_1, .slice A1_2 l1_2.length c1_2]) 32 ?_; intro gb170 hg w22 hbox hb; have BK170 := zA (hbox); have GW170 := zA (zG : w.heap.size ≤ gb170); have GE170 := zA (zG : w.heap.size ≤ gb170); have NB169_170 := zA (zU BK169 hg); have NB170_169 := zA (zV BK169 hg); replace BK169 := zA (zW BK169 hb); replace HB := zA (below_step zB hb); clear hb hbox hg; have hnb23 := NB169_170.out; have hnc23 := NB170_169.out; obtain ⟨hcz24_0, hcz24_1, hcz24_2, hfz24_0, hfz24_1, hfz24_2⟩ := zC3 BK169; obtain ⟨hcz25_0, hcz25_1, hcz25_2, hfz25_0, hfz25_1, hfz25_2⟩ := zC3 BK170)))
  go_ret
  exact ⟨by rfl, zB⟩


/-! ### spec_l01Own: function 83 -/
def spec_l01Own.f (l0 : List Int) : Option (List Int) := (some (([] : List Int) : List Int)).bind fun y173 => (if y173.length + l0.length < 17592186044416 then (some (y173 ++ l0)) else (none))
theorem spec_l01Own.calls (A0 : Option Addr) (c0 : Nat) (l0 : List Int) (r : List Int) (w : World) (hr0 : Kd.C (Kd.int .i64) w A0 l0.length l0) (hc0 : l0.length ≤ c0) (h : spec_l01Own.f l0 = some r) :
 Calls Try.prog 83 #[.slice A0 l0.length c0] w fun e w' => ∃ v0_ : Value, e = .returned (v0_) ∧ Kd.R (Kd.int .i64) 2 w' w.heap.size (fun _ => True) v0_ r ∧ Below w.heap.size w w' := by
 have HR0 := zA hr0
 have HC0 := zA hc0
 clear hr0 hc0
 have HB := zA (Below.refl w.heap.size w)
 have H : ((some (([] : List Int) : List Int)).bind fun y173 => (if y173.length + l0.length < 17592186044416 then (some (y173 ++ l0)) else (none))) = some r := h
 clear h
 obtain ⟨y173, hy173⟩ : ∃ y_ : List Int, y_ = (([] : List Int)) := ⟨_, rfl⟩
 replace H : (if y173.length + l0.length < 17592186044416 then (some (y173 ++ l0)) else (none)) = some r := by (have H2_ := (Option.bind_some _ _).symm.trans H; rw [hy173]; with_reducible exact H2_)
 have Ny173 := zA hy173
 clear hy173
 by_cases c2 : y173.length + l0.length < 17592186044416
 ·rw [if_pos c2] at H
  have LMc2 := zA c2
  clear c2
  obtain ⟨y176, hy176⟩ : ∃ y_ : List Int, y_ = (y173 ++ l0) := ⟨_, rfl⟩
  replace H : (some y176) = some r := by (rw [hy176]; with_reducible exact H)
  have Ny176 := zA hy176
  clear hy176
  obtain rfl := Option.some.inj H
  go_enter Try.func83, Try.ntmps83
  go_wp2_with (first | ((with_reducible refine gate_dst (N := 3) rfl ?_); refine Kd.R_lit (Kd.int .i64) _ 2 ?hg (N := 3) ?hd (xs := ([] : List Int)) (inner := []) (ok := fun _ => True) (okp := fun _ => True) ?hr ?hp (fun _ hk => hk) trivial (Below.refl _ _) (Nat.le_refl _) (by simp) ?_; (case hd => rfl); (case hg => rfl); (case hr => (go_simp; done)); (case hp => exact (Reps.none _ _)); intro v174 w3 ho4 hb hg_ hnew_; clear hg_ hnew_; (rw [← Ny173.out] at ho4); have HO175 := zA (Kd.R_lower ho4 (below_size zB)); replace HB := zA (below_step zB hb); clear hb ho4) | ((with_reducible refine gate_builtin (b := .append) (xs := #[.tmp 3, .tmp 4]) rfl ?_); at_builtin; refine Kd.R_append_rows (Kd.int .i64) (w0 := w) w.heap.size rfl (.tmp 3) (.tmp 4) 48 2 (.int .i64 0) 8 rfl Try.underlying48 info2 rfl (by decide) (by omega) v174 y173 l0 _ _ _ (fun _ => True) (fun _ => False) rfl rfl ?aO ?aR (fun _ _ h => h) (fun _ h => h.elim) ?aF ?aB ?aS ?aL ?_; (case aR => repeat (exact (Kd.C_below HR0.out HB.out))); (case aB => exact zB); (case aF => exact (fun _ _ => trivial)); (case aO => exact zR); (case aS => exact (below_size zB)); (case aL => have := LMc2.out; omega); intro v177 w5 ho hb hg hat; rw [← Ny176.out] at ho; have HO178 := zA (ho); replace HB := zA (hb); clear HO175; clear ho hb hg hat))
  go_ret
  exact ⟨_, by rfl, zR, zB⟩
 ·rw [if_neg c2] at H
  exact absurd H (by simp)


/-! ### spec_l01Empty: function 77 -/
def spec_l01Empty.f (a0_0 : Int) (a0_1 : Int) (l0_2 : List (S89)) : Option (Int × Int × (List (S89))) := some (a0_0, a0_1, (([] : List (S89))))
theorem spec_l01Empty.calls (a0_0 : Int) (a0_1 : Int) (A0_2 : Option Addr) (c0_2 : Nat) (l0_2 : List (S89)) (r1 : Int) (r2 : Int) (r3 : List (S89)) (w : World) (hr0_2 : Kd.C k89 w A0_2 l0_2.length l0_2) (hc0_2 : l0_2.length ≤ c0_2) (h : spec_l01Empty.f a0_0 a0_1 l0_2 = some (r1, r2, r3)) :
 Calls Try.prog 77 #[.agg #[.int .i64 a0_0, .int .i64 a0_1, .slice A0_2 l0_2.length c0_2]] w fun e w' => ∃ v2_ : Value, e = .returned (.agg #[.int .i64 r1, .int .i64 r2, v2_]) ∧ Kd.R k89 89 w' w.heap.size (fun _ => True) v2_ r3 ∧ Below w.heap.size w w' := by
 have hu32 := Try.underlying32
 have HR0_2 := zA hr0_2
 have HC0_2 := zA hc0_2
 clear hr0_2 hc0_2
 have HB := zA (Below.refl w.heap.size w)
 have H : (some (a0_0, a0_1, (([] : List (S89))))) = some (r1, r2, r3) := h
 clear h
 obtain ⟨y181, hy181⟩ : ∃ y_ : List (S89), y_ = (([] : List (S89))) := ⟨_, rfl⟩
 replace H : (some (a0_0, a0_1, y181)) = some (r1, r2, r3) := by (rw [hy181]; with_reducible exact H)
 have Ny181 := zA hy181
 clear hy181
 simp only [Option.some.injEq, Prod.mk.injEq] at H
 obtain ⟨rfl, rfl, rfl⟩ := H
 go_enter Try.func77, Try.ntmps77
 go_wp2_with (first | ((with_reducible refine gate_dst (N := 1) rfl ?_); refine zX 1 (#[.int .i64 a0_0, .int .i64 a0_1, .slice A0_2 l0_2.length c0_2]) 32 ?_; intro gb179 hg w2 hbox hb; have BK179 := zA (hbox); have GW179 := zA (zG : w.heap.size ≤ gb179); have GE179 := zA (zG : w.heap.size ≤ gb179); replace HB := zA (below_step zB hb); clear hb hbox hg) | ((with_reducible refine gate_dst (N := 2) rfl ?_); refine zX 2 (#[.int .i64 0, .int .i64 0, .slice none 0 0]) 32 ?_; intro gb180 hg w3 hbox hb; have BK180 := zA (hbox); have GW180 := zA (zG : w.heap.size ≤ gb180); have GE180 := zA (zG : w.heap.size ≤ gb180); have NB179_180 := zA (zU BK179 hg); have NB180_179 := zA (zV BK179 hg); replace BK179 := zA (zW BK179 hb); replace HB := zA (below_step zB hb); clear hb hbox hg; have hnb4 := NB179_180.out; have hnc4 := NB180_179.out; obtain ⟨hcz5_0, hcz5_1, hcz5_2, hfz5_0, hfz5_1, hfz5_2⟩ := zC3 BK179) | ((with_reducible refine gate_dst (N := 7) rfl ?_); refine Kd.R_lit k89 _ 89 ?hg (N := 7) ?hd (xs := ([] : List (S89))) (inner := []) (ok := fun _ => True) (okp := fun _ => True) ?hr ?hp (fun _ hk => hk) trivial (Below.refl _ _) (Nat.le_refl _) (by simp) ?_; (case hd => rfl); (case hg => rfl); (case hr => (go_simp; done)); (case hp => exact (Reps.none _ _)); intro v182 w6 ho7 hb hg_ hnew_; clear hg_ hnew_; (rw [← Ny181.out] at ho7); have HO183 := zA (Kd.R_lower ho7 (below_size zB)); replace BK179 := zA (zW BK179 hb); replace BK180 := zA (zW BK180 hb); replace HB := zA (below_step zB hb); clear hb ho7; obtain ⟨Ao8, co8, eo8⟩ := Kd.R_slice HO183.out; subst eo8; obtain ⟨hcz9_0, hcz9_1, hcz9_2, hfz9_0, hfz9_1, hfz9_2⟩ := zC3 BK180))
 refine bodyPost_ret (results_cell_row rfl _ _ gb180 32 #[.int .i64 a0_0, .int .i64 a0_1, .slice Ao8 y181.length co8] (0, 0) _ rfl (by refine blk_put (cs := #[.int .i64 a0_0, .int .i64 a0_1, .slice none 0 0]) ?_ 2 _ rfl; refine blk_put (cs := #[.int .i64 a0_0, .int .i64 0, .slice none 0 0]) ?_ 1 _ rfl; refine blk_put (cs := #[.int .i64 0, .int .i64 0, .slice none 0 0]) ?_ 0 _ rfl; exact zK) Try.underlying32 rfl (by kernel_rfl)) rfl ?_
 exact ⟨_, by rfl, by exact Kd.R_mono (Kd.R_far (p := ⟨gb180, 2, none⟩) (Kd.R_far (p := ⟨gb180, 1, none⟩) (Kd.R_far (p := ⟨gb180, 0, none⟩) (Kd.R_types HO183.out BK180.out (by decide)) (fun _ hk => hk.2) (.int .i64 a0_0)) (fun _ hk => hk.2) (.int .i64 a0_1)) (fun _ hk => hk.2) (.slice Ao8 y181.length co8)) (fun _ hk => trivial), zB⟩

end Go.Proofs.Ytcklefgkbddlhaa.P
