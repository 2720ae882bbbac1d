/- What a call of each Go function named below comes to is what the plain Lean function beside it says. Made by a program of this session out of the print of the translation; Lean checks it. -/
import Derived.Test.YtcklefgkbddlhaaPx0
import Derived.Test.YtcklefgkbddlhaaPx3
namespace Go.Proofs.Ytcklefgkbddlhaa.P
open Go.RowKit Go.Proofs.YtcklefgkbddlhaaW.PrintWords Go.Proofs.YtcklefgkbddlhaaW.PrintLast Go.Proofs.YtcklefgkbddlhaaW.PrintMore
attribute [local go_sem] max2_int min2_int max_two min_two max_three min_three max_four min_four   -- for this text's walks alone
set_option linter.unusedVariables false
set_option linter.unusedSimpArgs false


/-! ### spec_l01Is: function 52 -/
mutual
def spec_l01Is.l0 : Nat → Int → Int → Int → List (S89) → Option (Bool)
 | 0, _, _, _, _ => none
 | k + 1, x3, x157000, x157001, x157002 => if x3 < (x157002.length : Int) then (if 0 ≤ x3 then (if (((rd_T89 x157002 x3).f0).size : Int) > x157001 then (spec_l01Is.j1 k x3 true x157000 x157001 x157002 ((rd_T89 x157002 x3).f0) ((rd_T89 x157002 x3).f1.f0) ((rd_T89 x157002 x3).f1.f1)) else ((spec_l01Word.f k x157000 ((rd_T89 x157002 x3).f0)).bind fun t160 => (if t160 = true then ((spec_l01IsFrac.f k ((rd_T89 x157002 x3).f1.f0) ((rd_T89 x157002 x3).f1.f1)).bind fun t161 => (if t161 = true then ((spec_l01Zero.f ((rd_T89 x157002 x3).f1.f0) ((rd_T89 x157002 x3).f1.f1)).bind fun t162 => (spec_l01Is.j1 k x3 t162 x157000 x157001 x157002 ((rd_T89 x157002 x3).f0) ((rd_T89 x157002 x3).f1.f0) ((rd_T89 x157002 x3).f1.f1))) else (spec_l01Is.j1 k x3 true x157000 x157001 x157002 ((rd_T89 x157002 x3).f0) ((rd_T89 x157002 x3).f1.f0) ((rd_T89 x157002 x3).f1.f1)))) else (spec_l01Is.j1 k x3 true x157000 x157001 x157002 ((rd_T89 x157002 x3).f0) ((rd_T89 x157002 x3).f1.f0) ((rd_T89 x157002 x3).f1.f1))))) else (none)) else (some true)
def spec_l01Is.j1 : Nat → Int → Bool → Int → Int → List (S89) → ByteArray → Int → Int → Option (Bool)
 | 0, _, _, _, _, _, _, _, _ => none
 | k + 1, x3, x47, x157000, x157001, x157002, x160000, x160001, x160002 => if x47 = true then (some false) else (if x3 > 0 then (if 0 ≤ (wrap64 (x3 - 1)) then (if (wrap64 (x3 - 1)) < (x157002.length : Int) then ((spec_l01Before.f ((rd_T89 x157002 (wrap64 (x3 - 1))).f0) x160000).bind fun t164 => (if t164 = true then (spec_l01Is.l0 k (wrap64 (x3 + 1)) x157000 x157001 x157002) else (some false))) else (none)) else (none)) else (spec_l01Is.l0 k (wrap64 (x3 + 1)) x157000 x157001 x157002))
end
def spec_l01Is.f (k : Nat) (a0_0 : Int) (a0_1 : Int) (l0_2 : List (S89)) : Option (Bool) := (spec_l01Sizes.f a0_0 a0_1).bind fun t157 => (if t157 = true then (spec_l01Is.l0 k 0 a0_0 a0_1 l0_2) else (some false))
set_option maxHeartbeats 8000000 in
set_option maxRecDepth 100000 in
theorem spec_l01Is.calls (k : Nat) (a0_0 : Int) (a0_1 : Int) (A0_2 : Option Addr) (c0_2 : Nat) (l0_2 : List (S89)) (r : Bool) (w : World) (hr0_2 : Kd.C k89 w A0_2 l0_2.length l0_2) (hc0_2 : l0_2.length ≤ c0_2) (h : spec_l01Is.f k a0_0 a0_1 l0_2 = some r) :
 Calls Try.prog 52 #[.agg #[.int .i64 a0_0, .int .i64 a0_1, .slice A0_2 l0_2.length c0_2]] w fun e w' => e = .returned (.bool r) ∧ Below w.heap.size w w' := by
 have hu32 := Try.underlying32
 have hu89 := Try.underlying89
 have hu27 := Try.underlying27
 have HR0_2 := zA hr0_2
 have HC0_2 := zA hc0_2
 clear hr0_2 hc0_2
 have HB := zA (Below.refl w.heap.size w)
 have H : ((spec_l01Sizes.f a0_0 a0_1).bind fun t157 => (if t157 = true then (spec_l01Is.l0 k 0 a0_0 a0_1 l0_2) else (some false))) = some r := h
 clear h
 replace H := Option.bind_eq_some_iff.mp H
 obtain ⟨t157, A20, H⟩ := H
 replace H : (if t157 = true then (spec_l01Is.l0 k 0 a0_0 a0_1 l0_2) else (some false)) = some r := H
 have A2 := zA A20
 clear A20
 by_cases c3 : t157 = true
 ·subst c3
  have H1 : (spec_l01Is.l0 k 0 a0_0 a0_1 l0_2) = some r := by rw [if_pos rfl] at H; exact H
  clear H
  have H := H1
  clear H1
  have H' := zA H
  clear H
  go_enter Try.func52, Try.ntmps52
  go_wp2_with (first | ((with_reducible refine gate_dst (N := 1) rfl ?_); refine zX 1 (#[.int .i64 a0_0, .int .i64 a0_1, .slice A0_2 l0_2.length c0_2]) 32 ?_; intro gb156 hg w4 hbox hb; have BK156 := zA (hbox); have GW156 := zA (zG : w.heap.size ≤ gb156); have GE156 := zA (zG : w.heap.size ≤ gb156); replace HB := zA (below_step zB hb); clear hb hbox hg; obtain ⟨hcz5_0, hcz5_1, hcz5_2, hfz5_0, hfz5_1, hfz5_2⟩ := zC3 BK156) | (go_at_call 98; (with_reducible refine (spec_l01Sizes.calls a0_0 a0_1 true _ A2.out).mono ?_); rintro e w' ⟨rfl, ⟨nd, rfl⟩⟩; (try first | exact ⟨rfl, _, World.drewN_drewN _ _ _⟩ | exact ⟨rfl, _, Eq.trans (World.drewN_drewN _ _ _) (congrArg (World.drewN _) (Nat.add_assoc _ _ _))⟩)))
  repeat (go_quiet (first | ((with_reducible refine gate_dst (N := 1) rfl ?_); refine zX 1 (#[.int .i64 a0_0, .int .i64 a0_1, .slice A0_2 l0_2.length c0_2]) 32 ?_; intro gb156 hg w4 hbox hb; have BK156 := zA (hbox); have GW156 := zA (zG : w.heap.size ≤ gb156); have GE156 := zA (zG : w.heap.size ≤ gb156); replace HB := zA (below_step zB hb); clear hb hbox hg; obtain ⟨hcz5_0, hcz5_1, hcz5_2, hfz5_0, hfz5_1, hfz5_2⟩ := zC3 BK156) | (go_at_call 98; (with_reducible refine (spec_l01Sizes.calls a0_0 a0_1 true _ A2.out).mono ?_); rintro e w' ⟨rfl, ⟨nd, rfl⟩⟩; (try first | exact ⟨rfl, _, World.drewN_drewN _ _ _⟩ | exact ⟨rfl, _, Eq.trans (World.drewN_drewN _ _ _) (congrArg (World.drewN _) (Nat.add_assoc _ _ _))⟩))); try go_wp2_with (first | ((with_reducible refine gate_dst (N := 1) rfl ?_); refine zX 1 (#[.int .i64 a0_0, .int .i64 a0_1, .slice A0_2 l0_2.length c0_2]) 32 ?_; intro gb156 hg w4 hbox hb; have BK156 := zA (hbox); have GW156 := zA (zG : w.heap.size ≤ gb156); have GE156 := zA (zG : w.heap.size ≤ gb156); replace HB := zA (below_step zB hb); clear hb hbox hg; obtain ⟨hcz5_0, hcz5_1, hcz5_2, hfz5_0, hfz5_1, hfz5_2⟩ := zC3 BK156) | (go_at_call 98; (with_reducible refine (spec_l01Sizes.calls a0_0 a0_1 true _ A2.out).mono ?_); rintro e w' ⟨rfl, ⟨nd, rfl⟩⟩; (try first | exact ⟨rfl, _, World.drewN_drewN _ _ _⟩ | exact ⟨rfl, _, Eq.trans (World.drewN_drewN _ _ _) (congrArg (World.drewN _) (Nat.add_assoc _ _ _))⟩))))
  go_loopg [3] k (fun kq v3 w' => ∃ (x3_1 : Int), v3 = .int .i64 x3_1 ∧ Aside0 (spec_l01Is.l0 kq x3_1 a0_0 a0_1 l0_2 = some r) ∧ Aside0 (kq ≤ k) ∧ Aside0 (w'.heap[gb156]? = some (.cells #[.int .i64 a0_0, .int .i64 a0_1, (.slice A0_2 l0_2.length c0_2)] 32 (0, 0))) ∧ Aside0 (Below w.heap.size w w'))
  case atStart => exact ⟨(0), (by rfl), H', ⟨Nat.le_refl _⟩, ⟨zK⟩, ⟨zB⟩⟩
  case round =>
   clear H'
   obtain ⟨x3_1, rfl, HA, HK1, BK156, HB⟩ := hrel
   cases gk with
   | zero => exact absurd HA.out (by simp [spec_l01Is.l0])
   | succ k1 =>
    have H := HA.out
    clear HA
    simp only [spec_l01Is.l0] at H
    by_cases c6 : x3_1 < (l0_2.length : Int)
    ·rw [if_pos c6] at H
     have c6b0 : decide (x3_1 < (l0_2.length : Int)) = true := decide_eq_true c6
     clear c6
     by_cases c7 : 0 ≤ x3_1
     ·rw [if_pos c7] at H
      have c7b0 : decide (0 ≤ x3_1) = true := decide_eq_true c7
      clear c7
      have HC8 := zA H
      clear H
      obtain ⟨hcz9_0, hcz9_1, hcz9_2, hfz9_0, hfz9_1, hfz9_2⟩ := zC3 BK156
      have p158 : 0 ≤ (x3_1 : Int) := zD
      have q158 : x3_1 < (l0_2.length : Int) := zD
      obtain ⟨ad158, e158, hx158_0, hx158_1, hx158_2⟩ := at_T89 HR0_2.out x3_1 p158 q158
      cases e158
      replace hx158_0 := zH HB hx158_0
      replace hx158_1 := zH HB hx158_1
      replace hx158_2 := zH HB hx158_2
      replace p158 := eq_true p158
      replace q158 := eq_true q158
      go_upto_region 7 with (first | ((with_reducible refine gate_dst (N := 4) rfl ?_); refine zX 4 (#[.string (⟨#[]⟩ : ByteArray), .int .i64 0, .int .i64 0]) 89 ?_; intro gb159 hg w10 hbox hb; have BK159 := zA (hbox); have GW159 := zA (zG : w.heap.size ≤ gb159); have GE159 := zA (zG : w.heap.size ≤ gb159); have NB156_159 := zA (zU BK156 hg); have NB159_156 := zA (zV BK156 hg); replace BK156 := zA (zW BK156 hb); replace HB := zA (below_step zB hb); clear hb hbox hg; have hnb11 := NB159_156.out; have hnc11 := NB156_159.out; obtain ⟨hcz12_0, hcz12_1, hcz12_2, hfz12_0, hfz12_1, hfz12_2⟩ := zC3 BK159))
      repeat (go_quiet (first | ((with_reducible refine gate_dst (N := 4) rfl ?_); refine zX 4 (#[.string (⟨#[]⟩ : ByteArray), .int .i64 0, .int .i64 0]) 89 ?_; intro gb159 hg w10 hbox hb; have BK159 := zA (hbox); have GW159 := zA (zG : w.heap.size ≤ gb159); have GE159 := zA (zG : w.heap.size ≤ gb159); have NB156_159 := zA (zU BK156 hg); have NB159_156 := zA (zV BK156 hg); replace BK156 := zA (zW BK156 hb); replace HB := zA (below_step zB hb); clear hb hbox hg; have hnb11 := NB159_156.out; have hnc11 := NB156_159.out; obtain ⟨hcz12_0, hcz12_1, hcz12_2, hfz12_0, hfz12_1, hfz12_2⟩ := zC3 BK159)); go_upto_region 7 with (first | ((with_reducible refine gate_dst (N := 4) rfl ?_); refine zX 4 (#[.string (⟨#[]⟩ : ByteArray), .int .i64 0, .int .i64 0]) 89 ?_; intro gb159 hg w10 hbox hb; have BK159 := zA (hbox); have GW159 := zA (zG : w.heap.size ≤ gb159); have GE159 := zA (zG : w.heap.size ≤ gb159); have NB156_159 := zA (zU BK156 hg); have NB159_156 := zA (zV BK156 hg); replace BK156 := zA (zW BK156 hb); replace HB := zA (below_step zB hb); clear hb hbox hg; have hnb11 := NB159_156.out; have hnc11 := NB156_159.out; obtain ⟨hcz12_0, hcz12_1, hcz12_2, hfz12_0, hfz12_1, hfz12_2⟩ := zC3 BK159)))
      (try simp only [Act.put, List.setIfInBounds_toArray, List.set])
      go_cut [47] (fun v47 wc => ∃ (kq : Nat) (x47_7 : Bool), v47 = .bool x47_7 ∧ Aside0 (spec_l01Is.j1 kq x3_1 x47_7 a0_0 a0_1 l0_2 ((rd_T89 l0_2 x3_1).f0) ((rd_T89 l0_2 x3_1).f1.f0) ((rd_T89 l0_2 x3_1).f1.f1) = some r) ∧ Aside0 (kq ≤ k1) ∧ Aside0 (wc.heap[gb156]? = some (.cells #[.int .i64 a0_0, .int .i64 a0_1, (.slice (some ad158) l0_2.length c0_2)] 32 (0, 0))) ∧ Aside0 (wc.heap[gb159]? = some (.cells #[.string ((rd_T89 l0_2 x3_1).f0), .int .i64 ((rd_T89 l0_2 x3_1).f1.f0), .int .i64 ((rd_T89 l0_2 x3_1).f1.f1)] 89 (0, 0))) ∧ Aside0 (Below w.heap.size w wc))
      case first =>
       have H := HC8.out
       clear HC8
       by_cases c13 : (((rd_T89 l0_2 x3_1).f0).size : Int) > a0_1
       ·rw [if_pos c13] at H
        have c13b0 : decide (a0_1 < (((rd_T89 l0_2 x3_1).f0).size : Int)) = true := decide_eq_true c13
        clear c13
        (skip)
        have H' := zA H
        clear H
        have hnb14 := NB159_156.out
        have hnc14 := NB156_159.out
        obtain ⟨hcz15_0, hcz15_1, hcz15_2, hfz15_0, hfz15_1, hfz15_2⟩ := zC3 BK159
        obtain ⟨hcz16_0, hcz16_1, hcz16_2, hfz16_0, hfz16_1, hfz16_2⟩ := zC3 BK156
        go_wp2
        repeat (go_quiet (fail); try go_wp2)
        go_meet
        case rel => exact ⟨_, (true), (by rfl), H', ⟨by have := HK1.out; omega⟩, ⟨by refine blk_far ?_ NB156_159.out _; refine blk_far ?_ NB156_159.out _; refine blk_far ?_ NB156_159.out _; exact BK156.out⟩, ⟨by refine blk_put (cs := #[.string ((rd_T89 l0_2 x3_1).f0), .int .i64 ((rd_T89 l0_2 x3_1).f1.f0), .int .i64 0]) ?_ 2 _ rfl; refine blk_put (cs := #[.string ((rd_T89 l0_2 x3_1).f0), .int .i64 0, .int .i64 0]) ?_ 1 _ rfl; refine blk_put (cs := #[.string (⟨#[]⟩ : ByteArray), .int .i64 0, .int .i64 0]) ?_ 0 _ rfl; exact BK159.out⟩, ⟨zB⟩⟩
       ·rw [if_neg c13] at H
        have c13b0 : decide (a0_1 < (((rd_T89 l0_2 x3_1).f0).size : Int)) = false := decide_eq_false c13
        clear c13
        (skip)
        replace H := Option.bind_eq_some_iff.mp H
        obtain ⟨t160, A170, H⟩ := H
        replace H : (if t160 = true then ((spec_l01IsFrac.f k1 ((rd_T89 l0_2 x3_1).f1.f0) ((rd_T89 l0_2 x3_1).f1.f1)).bind fun t161 => (if t161 = true then ((spec_l01Zero.f ((rd_T89 l0_2 x3_1).f1.f0) ((rd_T89 l0_2 x3_1).f1.f1)).bind fun t162 => (spec_l01Is.j1 k1 x3_1 t162 a0_0 a0_1 l0_2 ((rd_T89 l0_2 x3_1).f0) ((rd_T89 l0_2 x3_1).f1.f0) ((rd_T89 l0_2 x3_1).f1.f1))) else (spec_l01Is.j1 k1 x3_1 true a0_0 a0_1 l0_2 ((rd_T89 l0_2 x3_1).f0) ((rd_T89 l0_2 x3_1).f1.f0) ((rd_T89 l0_2 x3_1).f1.f1)))) else (spec_l01Is.j1 k1 x3_1 true a0_0 a0_1 l0_2 ((rd_T89 l0_2 x3_1).f0) ((rd_T89 l0_2 x3_1).f1.f0) ((rd_T89 l0_2 x3_1).f1.f1))) = some r := H
        have A17 := zA A170
        clear A170
        by_cases c18 : t160 = true
        ·subst c18
         have H1 : ((spec_l01IsFrac.f k1 ((rd_T89 l0_2 x3_1).f1.f0) ((rd_T89 l0_2 x3_1).f1.f1)).bind fun t161 => (if t161 = true then ((spec_l01Zero.f ((rd_T89 l0_2 x3_1).f1.f0) ((rd_T89 l0_2 x3_1).f1.f1)).bind fun t162 => (spec_l01Is.j1 k1 x3_1 t162 a0_0 a0_1 l0_2 ((rd_T89 l0_2 x3_1).f0) ((rd_T89 l0_2 x3_1).f1.f0) ((rd_T89 l0_2 x3_1).f1.f1))) else (spec_l01Is.j1 k1 x3_1 true a0_0 a0_1 l0_2 ((rd_T89 l0_2 x3_1).f0) ((rd_T89 l0_2 x3_1).f1.f0) ((rd_T89 l0_2 x3_1).f1.f1)))) = some r := by rw [if_pos rfl] at H; exact H
         clear H
         have H := H1
         clear H1
         replace H := Option.bind_eq_some_iff.mp H
         obtain ⟨t161, A190, H⟩ := H
         replace H : (if t161 = true then ((spec_l01Zero.f ((rd_T89 l0_2 x3_1).f1.f0) ((rd_T89 l0_2 x3_1).f1.f1)).bind fun t162 => (spec_l01Is.j1 k1 x3_1 t162 a0_0 a0_1 l0_2 ((rd_T89 l0_2 x3_1).f0) ((rd_T89 l0_2 x3_1).f1.f0) ((rd_T89 l0_2 x3_1).f1.f1))) else (spec_l01Is.j1 k1 x3_1 true a0_0 a0_1 l0_2 ((rd_T89 l0_2 x3_1).f0) ((rd_T89 l0_2 x3_1).f1.f0) ((rd_T89 l0_2 x3_1).f1.f1))) = some r := H
         have A19 := zA A190
         clear A190
         by_cases c20 : t161 = true
         ·subst c20
          have H1 : ((spec_l01Zero.f ((rd_T89 l0_2 x3_1).f1.f0) ((rd_T89 l0_2 x3_1).f1.f1)).bind fun t162 => (spec_l01Is.j1 k1 x3_1 t162 a0_0 a0_1 l0_2 ((rd_T89 l0_2 x3_1).f0) ((rd_T89 l0_2 x3_1).f1.f0) ((rd_T89 l0_2 x3_1).f1.f1))) = some r := by rw [if_pos rfl] at H; exact H
          clear H
          have H := H1
          clear H1
          replace H := Option.bind_eq_some_iff.mp H
          obtain ⟨t162, A210, H⟩ := H
          replace H : (spec_l01Is.j1 k1 x3_1 t162 a0_0 a0_1 l0_2 ((rd_T89 l0_2 x3_1).f0) ((rd_T89 l0_2 x3_1).f1.f0) ((rd_T89 l0_2 x3_1).f1.f1)) = some r := H
          have A21 := zA A210
          clear A210
          have H' := zA H
          clear H
          have hnb22 := NB159_156.out
          have hnc22 := NB156_159.out
          obtain ⟨hcz23_0, hcz23_1, hcz23_2, hfz23_0, hfz23_1, hfz23_2⟩ := zC3 BK159
          obtain ⟨hcz24_0, hcz24_1, hcz24_2, hfz24_0, hfz24_1, hfz24_2⟩ := zC3 BK156
          go_wp2_with (first | (go_at_call 53; (with_reducible refine (spec_l01Word.calls k1 a0_0 ((rd_T89 l0_2 x3_1).f0) true _ A17.out).mono ?_); rintro e w' ⟨rfl, ⟨nd, rfl⟩⟩; (try first | exact ⟨rfl, _, World.drewN_drewN _ _ _⟩ | exact ⟨rfl, _, Eq.trans (World.drewN_drewN _ _ _) (congrArg (World.drewN _) (Nat.add_assoc _ _ _))⟩)) | (go_at_call 103; (with_reducible refine (spec_l01IsFrac.calls k1 ((rd_T89 l0_2 x3_1).f1.f0) ((rd_T89 l0_2 x3_1).f1.f1) true _ A19.out).mono ?_); rintro e w25 ⟨rfl, hb⟩; have n0_ := zA (blk_below (g := gb156) (o := .cells #[.int .i64 a0_0, .int .i64 a0_1, .slice (some ad158) l0_2.length c0_2] 32 (0, 0)) (by (with_reducible repeat (refine blk_drewN ?_ _)); refine blk_far ?_ NB156_159.out _; refine blk_far ?_ NB156_159.out _; refine blk_far ?_ NB156_159.out _; exact zK) hb); have n1_ := zA (blk_below (g := gb159) (o := .cells #[.string ((rd_T89 l0_2 x3_1).f0), .int .i64 ((rd_T89 l0_2 x3_1).f1.f0), .int .i64 ((rd_T89 l0_2 x3_1).f1.f1)] 89 (0, 0)) (by (with_reducible repeat (refine blk_drewN ?_ _)); refine blk_put (cs := #[.string ((rd_T89 l0_2 x3_1).f0), .int .i64 ((rd_T89 l0_2 x3_1).f1.f0), .int .i64 0]) ?_ 2 _ rfl; refine blk_put (cs := #[.string ((rd_T89 l0_2 x3_1).f0), .int .i64 0, .int .i64 0]) ?_ 1 _ rfl; refine blk_put (cs := #[.string (⟨#[]⟩ : ByteArray), .int .i64 0, .int .i64 0]) ?_ 0 _ rfl; exact zK) hb); have n2_ := zA (below_step zB hb); clear BK156; clear BK159; clear HB; have BK156 := n0_; have BK159 := n1_; have HB := n2_; clear n0_ n1_ n2_; (try clear hb); (try clear hb2); (try clear hk); (try clear hi); have hcz26_0 : w25.cell? ⟨gb159, 0, none⟩ = some (.string ((rd_T89 l0_2 x3_1).f0)) := zE BK159; have hcz26_1 : w25.cell? ⟨gb159, 1, none⟩ = some (.int .i64 ((rd_T89 l0_2 x3_1).f1.f0)) := zE BK159; have hcz26_2 : w25.cell? ⟨gb159, 2, none⟩ = some (.int .i64 ((rd_T89 l0_2 x3_1).f1.f1)) := zE BK159; have hfz26_0 := blk_frozen BK159.out 0; have hfz26_1 := blk_frozen BK159.out 1; have hfz26_2 := blk_frozen BK159.out 2) | (go_at_call 104; (with_reducible refine (spec_l01Zero.calls ((rd_T89 l0_2 x3_1).f1.f0) ((rd_T89 l0_2 x3_1).f1.f1) t162 _ A21.out).mono ?_); rintro e w27 ⟨rfl, hb⟩; have n0_ := zA (blk_below (g := gb156) (o := .cells #[.int .i64 a0_0, .int .i64 a0_1, .slice (some ad158) l0_2.length c0_2] 32 (0, 0)) zK hb); have n1_ := zA (blk_below (g := gb159) (o := .cells #[.string ((rd_T89 l0_2 x3_1).f0), .int .i64 ((rd_T89 l0_2 x3_1).f1.f0), .int .i64 ((rd_T89 l0_2 x3_1).f1.f1)] 89 (0, 0)) zK hb); have n2_ := zA (below_step zB hb); clear BK156; clear BK159; clear HB; have BK156 := n0_; have BK159 := n1_; have HB := n2_; clear n0_ n1_ n2_; (try clear hb); (try clear hb2); (try clear hk); (try clear hi)))
          repeat (go_quiet (first | (go_at_call 53; (with_reducible refine (spec_l01Word.calls k1 a0_0 ((rd_T89 l0_2 x3_1).f0) true _ A17.out).mono ?_); rintro e w' ⟨rfl, ⟨nd, rfl⟩⟩; (try first | exact ⟨rfl, _, World.drewN_drewN _ _ _⟩ | exact ⟨rfl, _, Eq.trans (World.drewN_drewN _ _ _) (congrArg (World.drewN _) (Nat.add_assoc _ _ _))⟩)) | (go_at_call 103; (with_reducible refine (spec_l01IsFrac.calls k1 ((rd_T89 l0_2 x3_1).f1.f0) ((rd_T89 l0_2 x3_1).f1.f1) true _ A19.out).mono ?_); rintro e w25 ⟨rfl, hb⟩; have n0_ := zA (blk_below (g := gb156) (o := .cells #[.int .i64 a0_0, .int .i64 a0_1, .slice (some ad158) l0_2.length c0_2] 32 (0, 0)) (by refine blk_far ?_ NB156_159.out _; refine blk_far ?_ NB156_159.out _; refine blk_far ?_ NB156_159.out _; exact zK) hb); have n1_ := zA (blk_below (g := gb159) (o := .cells #[.string ((rd_T89 l0_2 x3_1).f0), .int .i64 ((rd_T89 l0_2 x3_1).f1.f0), .int .i64 ((rd_T89 l0_2 x3_1).f1.f1)] 89 (0, 0)) (by refine blk_put (cs := #[.string ((rd_T89 l0_2 x3_1).f0), .int .i64 ((rd_T89 l0_2 x3_1).f1.f0), .int .i64 0]) ?_ 2 _ rfl; refine blk_put (cs := #[.string ((rd_T89 l0_2 x3_1).f0), .int .i64 0, .int .i64 0]) ?_ 1 _ rfl; refine blk_put (cs := #[.string (⟨#[]⟩ : ByteArray), .int .i64 0, .int .i64 0]) ?_ 0 _ rfl; exact zK) hb); have n2_ := zA (below_step zB hb); clear BK156; clear BK159; clear HB; have BK156 := n0_; have BK159 := n1_; have HB := n2_; clear n0_ n1_ n2_; (try clear hb); (try clear hb2); (try clear hk); (try clear hi); have hcz26_0 : w25.cell? ⟨gb159, 0, none⟩ = some (.string ((rd_T89 l0_2 x3_1).f0)) := zE BK159; have hcz26_1 : w25.cell? ⟨gb159, 1, none⟩ = some (.int .i64 ((rd_T89 l0_2 x3_1).f1.f0)) := zE BK159; have hcz26_2 : w25.cell? ⟨gb159, 2, none⟩ = some (.int .i64 ((rd_T89 l0_2 x3_1).f1.f1)) := zE BK159; have hfz26_0 := blk_frozen BK159.out 0; have hfz26_1 := blk_frozen BK159.out 1; have hfz26_2 := blk_frozen BK159.out 2) | (go_at_call 104; (with_reducible refine (spec_l01Zero.calls ((rd_T89 l0_2 x3_1).f1.f0) ((rd_T89 l0_2 x3_1).f1.f1) t162 _ A21.out).mono ?_); rintro e w27 ⟨rfl, hb⟩; have n0_ := zA (blk_below (g := gb156) (o := .cells #[.int .i64 a0_0, .int .i64 a0_1, .slice (some ad158) l0_2.length c0_2] 32 (0, 0)) zK hb); have n1_ := zA (blk_below (g := gb159) (o := .cells #[.string ((rd_T89 l0_2 x3_1).f0), .int .i64 ((rd_T89 l0_2 x3_1).f1.f0), .int .i64 ((rd_T89 l0_2 x3_1).f1.f1)] 89 (0, 0)) zK hb); have n2_ := zA (below_step zB hb); clear BK156; clear BK159; clear HB; have BK156 := n0_; have BK159 := n1_; have HB := n2_; clear n0_ n1_ n2_; (try clear hb); (try clear hb2); (try clear hk); (try clear hi))); try go_wp2_with (first | (go_at_call 53; (with_reducible refine (spec_l01Word.calls k1 a0_0 ((rd_T89 l0_2 x3_1).f0) true _ A17.out).mono ?_); rintro e w' ⟨rfl, ⟨nd, rfl⟩⟩; (try first | exact ⟨rfl, _, World.drewN_drewN _ _ _⟩ | exact ⟨rfl, _, Eq.trans (World.drewN_drewN _ _ _) (congrArg (World.drewN _) (Nat.add_assoc _ _ _))⟩)) | (go_at_call 103; (with_reducible refine (spec_l01IsFrac.calls k1 ((rd_T89 l0_2 x3_1).f1.f0) ((rd_T89 l0_2 x3_1).f1.f1) true _ A19.out).mono ?_); rintro e w25 ⟨rfl, hb⟩; have n0_ := zA (blk_below (g := gb156) (o := .cells #[.int .i64 a0_0, .int .i64 a0_1, .slice (some ad158) l0_2.length c0_2] 32 (0, 0)) (by refine blk_far ?_ NB156_159.out _; refine blk_far ?_ NB156_159.out _; refine blk_far ?_ NB156_159.out _; exact zK) hb); have n1_ := zA (blk_below (g := gb159) (o := .cells #[.string ((rd_T89 l0_2 x3_1).f0), .int .i64 ((rd_T89 l0_2 x3_1).f1.f0), .int .i64 ((rd_T89 l0_2 x3_1).f1.f1)] 89 (0, 0)) (by refine blk_put (cs := #[.string ((rd_T89 l0_2 x3_1).f0), .int .i64 ((rd_T89 l0_2 x3_1).f1.f0), .int .i64 0]) ?_ 2 _ rfl; refine blk_put (cs := #[.string ((rd_T89 l0_2 x3_1).f0), .int .i64 0, .int .i64 0]) ?_ 1 _ rfl; refine blk_put (cs := #[.string (⟨#[]⟩ : ByteArray), .int .i64 0, .int .i64 0]) ?_ 0 _ rfl; exact zK) hb); have n2_ := zA (below_step zB hb); clear BK156; clear BK159; clear HB; have BK156 := n0_; have BK159 := n1_; have HB := n2_; clear n0_ n1_ n2_; (try clear hb); (try clear hb2); (try clear hk); (try clear hi); have hcz26_0 : w25.cell? ⟨gb159, 0, none⟩ = some (.string ((rd_T89 l0_2 x3_1).f0)) := zE BK159; have hcz26_1 : w25.cell? ⟨gb159, 1, none⟩ = some (.int .i64 ((rd_T89 l0_2 x3_1).f1.f0)) := zE BK159; have hcz26_2 : w25.cell? ⟨gb159, 2, none⟩ = some (.int .i64 ((rd_T89 l0_2 x3_1).f1.f1)) := zE BK159; have hfz26_0 := blk_frozen BK159.out 0; have hfz26_1 := blk_frozen BK159.out 1; have hfz26_2 := blk_frozen BK159.out 2) | (go_at_call 104; (with_reducible refine (spec_l01Zero.calls ((rd_T89 l0_2 x3_1).f1.f0) ((rd_T89 l0_2 x3_1).f1.f1) t162 _ A21.out).mono ?_); rintro e w27 ⟨rfl, hb⟩; have n0_ := zA (blk_below (g := gb156) (o := .cells #[.int .i64 a0_0, .int .i64 a0_1, .slice (some ad158) l0_2.length c0_2] 32 (0, 0)) zK hb); have n1_ := zA (blk_below (g := gb159) (o := .cells #[.string ((rd_T89 l0_2 x3_1).f0), .int .i64 ((rd_T89 l0_2 x3_1).f1.f0), .int .i64 ((rd_T89 l0_2 x3_1).f1.f1)] 89 (0, 0)) zK hb); have n2_ := zA (below_step zB hb); clear BK156; clear BK159; clear HB; have BK156 := n0_; have BK159 := n1_; have HB := n2_; clear n0_ n1_ n2_; (try clear hb); (try clear hb2); (try clear hk); (try clear hi))))
          go_meet
          case rel => exact ⟨_, (t162), (by rfl), H', ⟨by have := HK1.out; omega⟩, ⟨zK⟩, ⟨zK⟩, ⟨zB⟩⟩
         ·replace c20 := Bool.eq_false_iff.mpr c20
          subst c20
          have H1 : (spec_l01Is.j1 k1 x3_1 true a0_0 a0_1 l0_2 ((rd_T89 l0_2 x3_1).f0) ((rd_T89 l0_2 x3_1).f1.f0) ((rd_T89 l0_2 x3_1).f1.f1)) = some r := by rw [if_neg (show ¬ (false = true) by decide)] at H; exact H
          clear H
          have H := H1
          clear H1
          have H' := zA H
          clear H
          have hnb28 := NB159_156.out
          have hnc28 := NB156_159.out
          obtain ⟨hcz29_0, hcz29_1, hcz29_2, hfz29_0, hfz29_1, hfz29_2⟩ := zC3 BK159
          obtain ⟨hcz30_0, hcz30_1, hcz30_2, hfz30_0, hfz30_1, hfz30_2⟩ := zC3 BK156
          go_wp2_with (first | (go_at_call 53; (with_reducible refine (spec_l01Word.calls k1 a0_0 ((rd_T89 l0_2 x3_1).f0) true _ A17.out).mono ?_); rintro e w' ⟨rfl, ⟨nd, rfl⟩⟩; (try first | exact ⟨rfl, _, World.drewN_drewN _ _ _⟩ | exact ⟨rfl, _, Eq.trans (World.drewN_drewN _ _ _) (congrArg (World.drewN _) (Nat.add_assoc _ _ _))⟩)) | (go_at_call 103; (with_reducible refine (spec_l01IsFrac.calls k1 ((rd_T89 l0_2 x3_1).f1.f0) ((rd_T89 l0_2 x3_1).f1.f1) false _ A19.out).mono ?_); rintro e w31 ⟨rfl, hb⟩; replace BK156 := zA (blk_below (g := gb156) (o := .cells #[.int .i64 a0_0, .int .i64 a0_1, .slice (some ad158) l0_2.length c0_2] 32 (0, 0)) (by (with_reducible repeat (refine blk_drewN ?_ _)); refine blk_far ?_ NB156_159.out _; refine blk_far ?_ NB156_159.out _; refine blk_far ?_ NB156_159.out _; exact zK) hb); replace BK159 := zA (blk_below (g := gb159) (o := .cells #[.string ((rd_T89 l0_2 x3_1).f0), .int .i64 ((rd_T89 l0_2 x3_1).f1.f0), .int .i64 ((rd_T89 l0_2 x3_1).f1.f1)] 89 (0, 0)) (by (with_reducible repeat (refine blk_drewN ?_ _)); refine blk_put (cs := #[.string ((rd_T89 l0_2 x3_1).f0), .int .i64 ((rd_T89 l0_2 x3_1).f1.f0), .int .i64 0]) ?_ 2 _ rfl; refine blk_put (cs := #[.string ((rd_T89 l0_2 x3_1).f0), .int .i64 0, .int .i64 0]) ?_ 1 _ rfl; refine blk_put (cs := #[.string (⟨#[]⟩ : ByteArray), .int .i64 0, .int .i64 0]) ?_ 0 _ rfl; exact zK) hb); replace HB := zA (below_step zB hb); (try clear hb); (try clear hb2); (try clear hk); (try clear hi)))
          repeat (go_quiet (first | (go_at_call 53; (with_reducible refine (spec_l01Word.calls k1 a0_0 ((rd_T89 l0_2 x3_1).f0) true _ A17.out).mono ?_); rintro e w' ⟨rfl, ⟨nd, rfl⟩⟩; (try first | exact ⟨rfl, _, World.drewN_drewN _ _ _⟩ | exact ⟨rfl, _, Eq.trans (World.drewN_drewN _ _ _) (congrArg (World.drewN _) (Nat.add_assoc _ _ _))⟩)) | (go_at_call 103; (with_reducible refine (spec_l01IsFrac.calls k1 ((rd_T89 l0_2 x3_1).f1.f0) ((rd_T89 l0_2 x3_1).f1.f1) false _ A19.out).mono ?_); rintro e w31 ⟨rfl, hb⟩; replace BK156 := zA (blk_below (g := gb156) (o := .cells #[.int .i64 a0_0, .int .i64 a0_1, .slice (some ad158) l0_2.length c0_2] 32 (0, 0)) (by refine blk_far ?_ NB156_159.out _; refine blk_far ?_ NB156_159.out _; refine blk_far ?_ NB156_159.out _; exact zK) hb); replace BK159 := zA (blk_below (g := gb159) (o := .cells #[.string ((rd_T89 l0_2 x3_1).f0), .int .i64 ((rd_T89 l0_2 x3_1).f1.f0), .int .i64 ((rd_T89 l0_2 x3_1).f1.f1)] 89 (0, 0)) (by refine blk_put (cs := #[.string ((rd_T89 l0_2 x3_1).f0), .int .i64 ((rd_T89 l0_2 x3_1).f1.f0), .int .i64 0]) ?_ 2 _ rfl; refine blk_put (cs := #[.string ((rd_T89 l0_2 x3_1).f0), .int .i64 0, .int .i64 0]) ?_ 1 _ rfl; refine blk_put (cs := #[.string (⟨#[]⟩ : ByteArray), .int .i64 0, .int .i64 0]) ?_ 0 _ rfl; exact zK) hb); replace HB := zA (below_step zB hb); (try clear hb); (try clear hb2); (try clear hk); (try clear hi))); try go_wp2_with (first | (go_at_call 53; (with_reducible refine (spec_l01Word.calls k1 a0_0 ((rd_T89 l0_2 x3_1).f0) true _ A17.out).mono ?_); rintro e w' ⟨rfl, ⟨nd, rfl⟩⟩; (try first | exact ⟨rfl, _, World.drewN_drewN _ _ _⟩ | exact ⟨rfl, _, Eq.trans (World.drewN_drewN _ _ _) (congrArg (World.drewN _) (Nat.add_assoc _ _ _))⟩)) | (go_at_call 103; (with_reducible refine (spec_l01IsFrac.calls k1 ((rd_T89 l0_2 x3_1).f1.f0) ((rd_T89 l0_2 x3_1).f1.f1) false _ A19.out).mono ?_); rintro e w31 ⟨rfl, hb⟩; replace BK156 := zA (blk_below (g := gb156) (o := .cells #[.int .i64 a0_0, .int .i64 a0_1, .slice (some ad158) l0_2.length c0_2] 32 (0, 0)) (by refine blk_far ?_ NB156_159.out _; refine blk_far ?_ NB156_159.out _; refine blk_far ?_ NB156_159.out _; exact zK) hb); replace BK159 := zA (blk_below (g := gb159) (o := .cells #[.string ((rd_T89 l0_2 x3_1).f0), .int .i64 ((rd_T89 l0_2 x3_1).f1.f0), .int .i64 ((rd_T89 l0_2 x3_1).f1.f1)] 89 (0, 0)) (by refine blk_put (cs := #[.string ((rd_T89 l0_2 x3_1).f0), .int .i64 ((rd_T89 l0_2 x3_1).f1.f0), .int .i64 0]) ?_ 2 _ rfl; refine blk_put (cs := #[.string ((rd_T89 l0_2 x3_1).f0), .int .i64 0, .int .i64 0]) ?_ 1 _ rfl; refine blk_put (cs := #[.string (⟨#[]⟩ : ByteArray), .int .i64 0, .int .i64 0]) ?_ 0 _ rfl; exact zK) hb); replace HB := zA (below_step zB hb); (try clear hb); (try clear hb2); (try clear hk); (try clear hi))))
          go_meet
          case rel => exact ⟨_, (true), (by rfl), H', ⟨by have := HK1.out; omega⟩, ⟨zK⟩, ⟨zK⟩, ⟨zB⟩⟩
        ·replace c18 := Bool.eq_false_iff.mpr c18
         subst c18
         have H1 : (spec_l01Is.j1 k1 x3_1 true a0_0 a0_1 l0_2 ((rd_T89 l0_2 x3_1).f0) ((rd_T89 l0_2 x3_1).f1.f0) ((rd_T89 l0_2 x3_1).f1.f1)) = some r := by rw [if_neg (show ¬ (false = true) by decide)] at H; exact H
         clear H
         have H := H1
         clear H1
         have H' := zA H
         clear H
         have hnb32 := NB159_156.out
         have hnc32 := NB156_159.out
         obtain ⟨hcz33_0, hcz33_1, hcz33_2, hfz33_0, hfz33_1, hfz33_2⟩ := zC3 BK159
         obtain ⟨hcz34_0, hcz34_1, hcz34_2, hfz34_0, hfz34_1, hfz34_2⟩ := zC3 BK156
         go_wp2_with (first | (go_at_call 53; (with_reducible refine (spec_l01Word.calls k1 a0_0 ((rd_T89 l0_2 x3_1).f0) false _ A17.out).mono ?_); rintro e w' ⟨rfl, ⟨nd, rfl⟩⟩; (try first | exact ⟨rfl, _, World.drewN_drewN _ _ _⟩ | exact ⟨rfl, _, Eq.trans (World.drewN_drewN _ _ _) (congrArg (World.drewN _) (Nat.add_assoc _ _ _))⟩)))
         repeat (go_quiet (first | (go_at_call 53; (with_reducible refine (spec_l01Word.calls k1 a0_0 ((rd_T89 l0_2 x3_1).f0) false _ A17.out).mono ?_); rintro e w' ⟨rfl, ⟨nd, rfl⟩⟩; (try first | exact ⟨rfl, _, World.drewN_drewN _ _ _⟩ | exact ⟨rfl, _, Eq.trans (World.drewN_drewN _ _ _) (congrArg (World.drewN _) (Nat.add_assoc _ _ _))⟩))); try go_wp2_with (first | (go_at_call 53; (with_reducible refine (spec_l01Word.calls k1 a0_0 ((rd_T89 l0_2 x3_1).f0) false _ A17.out).mono ?_); rintro e w' ⟨rfl, ⟨nd, rfl⟩⟩; (try first | exact ⟨rfl, _, World.drewN_drewN _ _ _⟩ | exact ⟨rfl, _, Eq.trans (World.drewN_drewN _ _ _) (congrArg (World.drewN _) (Nat.add_assoc _ _ _))⟩))))
         go_meet
         case rel => exact ⟨_, (true), (by rfl), H', ⟨by have := HK1.out; omega⟩, ⟨by (with_reducible repeat (refine blk_drewN ?_ _)); refine blk_far ?_ NB156_159.out _; refine blk_far ?_ NB156_159.out _; refine blk_far ?_ NB156_159.out _; exact BK156.out⟩, ⟨by (with_reducible repeat (refine blk_drewN ?_ _)); refine blk_put (cs := #[.string ((rd_T89 l0_2 x3_1).f0), .int .i64 ((rd_T89 l0_2 x3_1).f1.f0), .int .i64 0]) ?_ 2 _ rfl; refine blk_put (cs := #[.string ((rd_T89 l0_2 x3_1).f0), .int .i64 0, .int .i64 0]) ?_ 1 _ rfl; refine blk_put (cs := #[.string (⟨#[]⟩ : ByteArray), .int .i64 0, .int .i64 0]) ?_ 0 _ rfl; exact BK159.out⟩, ⟨zB⟩⟩
      case rest =>
       clear HC8
       obtain ⟨kq, x47_7, rfl, HA, HJ7, BK156, BK159, HB⟩ := hcut
       cases kq with
       | zero => exact absurd HA.out (by simp [spec_l01Is.j1])
       | succ kj7 =>
        have H := HA.out
        clear HA
        simp only [spec_l01Is.j1] at H
        by_cases c35 : x47_7 = true
        ·subst c35
         have H1 : (some false) = some r := by rw [if_pos rfl] at H; exact H
         clear H
         have H := H1
         clear H1
         obtain rfl := Option.some.inj H
         go_wp2
         repeat (go_quiet (fail); try go_wp2)
         go_ret
         exact ⟨by rfl, zB⟩
        ·replace c35 := Bool.eq_false_iff.mpr c35
         subst c35
         have H1 : (if x3_1 > 0 then (if 0 ≤ (wrap64 (x3_1 - 1)) then (if (wrap64 (x3_1 - 1)) < (l0_2.length : Int) then ((spec_l01Before.f ((rd_T89 l0_2 (wrap64 (x3_1 - 1))).f0) ((rd_T89 l0_2 x3_1).f0)).bind fun t164 => (if t164 = true then (spec_l01Is.l0 kj7 (wrap64 (x3_1 + 1)) a0_0 a0_1 l0_2) else (some false))) else (none)) else (none)) else (spec_l01Is.l0 kj7 (wrap64 (x3_1 + 1)) a0_0 a0_1 l0_2)) = some r := by rw [if_neg (show ¬ (false = true) by decide)] at H; exact H
         clear H
         have H := H1
         clear H1
         by_cases c36 : x3_1 > 0
         ·rw [if_pos c36] at H
          have c36b0 : decide (0 < x3_1) = true := decide_eq_true c36
          clear c36
          obtain ⟨ji37, hji37⟩ : ∃ j_ : Int, (wrap64 (x3_1 - 1)) = j_ := ⟨_, rfl⟩
          replace H : (if 0 ≤ (ji37) then (if (ji37) < (l0_2.length : Int) then ((spec_l01Before.f ((rd_T89 l0_2 (ji37)).f0) ((rd_T89 l0_2 x3_1).f0)).bind fun t164 => (if t164 = true then (spec_l01Is.l0 kj7 (wrap64 (x3_1 + 1)) a0_0 a0_1 l0_2) else (some false))) else (none)) else (none)) = some r := by (rw [hji37] at H; exact H)
          have hji37w : (IntKind.i64.wrap (x3_1 - 1)) = ji37 := (i64_w _).trans hji37
          by_cases c38 : 0 ≤ (ji37)
          ·rw [if_pos c38] at H
           have c38b0 : decide (0 ≤ (ji37)) = true := decide_eq_true c38
           clear c38
           by_cases c39 : (ji37) < (l0_2.length : Int)
           ·rw [if_pos c39] at H
            have c39b0 : decide ((ji37) < (l0_2.length : Int)) = true := decide_eq_true c39
            clear c39
            replace H := Option.bind_eq_some_iff.mp H
            obtain ⟨t164, A400, H⟩ := H
            replace H : (if t164 = true then (spec_l01Is.l0 kj7 (wrap64 (x3_1 + 1)) a0_0 a0_1 l0_2) else (some false)) = some r := H
            have A40 := zA A400
            clear A400
            by_cases c41 : t164 = true
            ·subst c41
             have H1 : (spec_l01Is.l0 kj7 (wrap64 (x3_1 + 1)) a0_0 a0_1 l0_2) = some r := by rw [if_pos rfl] at H; exact H
             clear H
             have H := H1
             clear H1
             have H' := zA H
             clear H
             have hnb42 := NB156_159.out
             have hnc42 := NB159_156.out
             obtain ⟨hcz43_0, hcz43_1, hcz43_2, hfz43_0, hfz43_1, hfz43_2⟩ := zC3 BK156
             have p163 : 0 ≤ ((ji37) : Int) := zD
             have q163 : (ji37) < (l0_2.length : Int) := zD
             obtain ⟨ad163, e163, hx163_0, hx163_1, hx163_2⟩ := at_T89 HR0_2.out (ji37) p163 q163
             obtain rfl : ad158 = ad163 := (by injection e163)
             replace hx163_0 := zH HB hx163_0
             replace hx163_1 := zH HB hx163_1
             replace hx163_2 := zH HB hx163_2
             replace p163 := eq_true p163
             replace q163 := eq_true q163
             obtain ⟨hcz44_0, hcz44_1, hcz44_2, hfz44_0, hfz44_1, hfz44_2⟩ := zC3 BK159
             go_wp2_with (first | (go_at_call 105; (with_reducible refine (spec_l01Before.calls ((rd_T89 l0_2 (ji37)).f0) ((rd_T89 l0_2 x3_1).f0) true _ A40.out).mono ?_); rintro e w' ⟨rfl, ⟨nd, rfl⟩⟩; (try first | exact ⟨rfl, _, World.drewN_drewN _ _ _⟩ | exact ⟨rfl, _, Eq.trans (World.drewN_drewN _ _ _) (congrArg (World.drewN _) (Nat.add_assoc _ _ _))⟩)))
             repeat (go_quiet (first | (go_at_call 105; (with_reducible refine (spec_l01Before.calls ((rd_T89 l0_2 (ji37)).f0) ((rd_T89 l0_2 x3_1).f0) true _ A40.out).mono ?_); rintro e w' ⟨rfl, ⟨nd, rfl⟩⟩; (try exact ⟨rfl, _, World.drewN_drewN _ _ _⟩))); try go_wp2_with (first | (go_at_call 105; (with_reducible refine (spec_l01Before.calls ((rd_T89 l0_2 (ji37)).f0) ((rd_T89 l0_2 x3_1).f0) true _ A40.out).mono ?_); rintro e w' ⟨rfl, ⟨nd, rfl⟩⟩; (try first | exact ⟨rfl, _, World.drewN_drewN _ _ _⟩ | exact ⟨rfl, _, Eq.trans (World.drewN_drewN _ _ _) (congrArg (World.drewN _) (Nat.add_assoc _ _ _))⟩))))
             go_roundg kj7
             case measure => have := HK1.out; have := HJ7.out; omega
             case rel => exact ⟨(wrap64 (x3_1 + 1)), (by rfl), H', ⟨by have := HK1.out; have := HJ7.out; omega⟩, ⟨zK⟩, ⟨zB⟩⟩
            ·replace c41 := Bool.eq_false_iff.mpr c41
             subst c41
             have H1 : (some false) = some r := by rw [if_neg (show ¬ (false = true) by decide)] at H; exact H
             clear H
             have H := H1
             clear H1
             obtain rfl := Option.some.inj H
             have hnb45 := NB156_159.out
             have hnc45 := NB159_156.out
             obtain ⟨hcz46_0, hcz46_1, hcz46_2, hfz46_0, hfz46_1, hfz46_2⟩ := zC3 BK156
             have p163 : 0 ≤ ((ji37) : Int) := zD
             have q163 : (ji37) < (l0_2.length : Int) := zD
             obtain ⟨ad163, e163, hx163_0, hx163_1, hx163_2⟩ := at_T89 HR0_2.out (ji37) p163 q163
             obtain rfl : ad158 = ad163 := (by injection e163)
             replace hx163_0 := zH HB hx163_0
             replace hx163_1 := zH HB hx163_1
             replace hx163_2 := zH HB hx163_2
             replace p163 := eq_true p163
             replace q163 := eq_true q163
             obtain ⟨hcz47_0, hcz47_1, hcz47_2, hfz47_0, hfz47_1, hfz47_2⟩ := zC3 BK159
             go_wp2_with (first | (go_at_call 105; (with_reducible refine (spec_l01Before.calls ((rd_T89 l0_2 (ji37)).f0) ((rd_T89 l0_2 x3_1).f0) false _ A40.out).mono ?_); rintro e w' ⟨rfl, ⟨nd, rfl⟩⟩; (try first | exact ⟨rfl, _, World.drewN_drewN _ _ _⟩ | exact ⟨rfl, _, Eq.trans (World.drewN_drewN _ _ _) (congrArg (World.drewN _) (Nat.add_assoc _ _ _))⟩)))
             repeat (go_quiet (first | (go_at_call 105; (with_reducible refine (spec_l01Before.calls ((rd_T89 l0_2 (ji37)).f0) ((rd_T89 l0_2 x3_1).f0) false _ A40.out).mono ?_); rintro e w' ⟨rfl, ⟨nd, rfl⟩⟩; (try exact ⟨rfl, _, World.drewN_drewN _ _ _⟩))); try go_wp2_with (first | (go_at_call 105; (with_reducible refine (spec_l01Before.calls ((rd_T89 l0_2 (ji37)).f0) ((rd_T89 l0_2 x3_1).f0) false _ A40.out).mono ?_); rintro e w' ⟨rfl, ⟨nd, rfl⟩⟩; (try first | exact ⟨rfl, _, World.drewN_drewN _ _ _⟩ | exact ⟨rfl, _, Eq.trans (World.drewN_drewN _ _ _) (congrArg (World.drewN _) (Nat.add_assoc _ _ _))⟩))))
             go_ret
             exact ⟨by rfl, zB⟩
           ·rw [if_neg c39] at H
            exact absurd H (by simp)
          ·rw [if_neg c38] at H
           exact absurd H (by simp)
         ·rw [if_neg c36] at H
          have c36b0 : decide (0 < x3_1) = false := decide_eq_false c36
          clear c36
          have H' := zA H
          clear H
          go_wp2
          repeat (go_quiet (fail); try go_wp2)
          go_roundg kj7
          case measure => have := HK1.out; have := HJ7.out; omega
          case rel => exact ⟨(wrap64 (x3_1 + 1)), (by rfl), H', ⟨by have := HK1.out; have := HJ7.out; omega⟩, ⟨zK⟩, ⟨zB⟩⟩
     ·rw [if_neg c7] at H
      exact absurd H (by simp)
    ·rw [if_neg c6] at H
     have c6b0 : decide (x3_1 < (l0_2.length : Int)) = false := decide_eq_false c6
     clear c6
     obtain rfl := Option.some.inj H
     obtain ⟨hcz48_0, hcz48_1, hcz48_2, hfz48_0, hfz48_1, hfz48_2⟩ := zC3 BK156
     go_wp2
     repeat (go_quiet (fail); try go_wp2)
     go_ret
     exact ⟨by rfl, zB⟩
 ·replace c3 := Bool.eq_false_iff.mpr c3
  subst c3
  have H1 : (some false) = some r := by rw [if_neg (show ¬ (false = true) by decide)] at H; exact H
  clear H
  have H := H1
  clear H1
  obtain rfl := Option.some.inj H
  go_enter Try.func52, Try.ntmps52
  go_wp2_with (first | ((with_reducible refine gate_dst (N := 1) rfl ?_); refine zX 1 (#[.int .i64 a0_0, .int .i64 a0_1, .slice A0_2 l0_2.length c0_2]) 32 ?_; intro gb156 hg w49 hbox hb; have BK156 := zA (hbox); have GW156 := zA (zG : w.heap.size ≤ gb156); have GE156 := zA (zG : w.heap.size ≤ gb156); replace HB := zA (below_step zB hb); clear hb hbox hg; obtain ⟨hcz50_0, hcz50_1, hcz50_2, hfz50_0, hfz50_1, hfz50_2⟩ := zC3 BK156) | (go_at_call 98; (with_reducible refine (spec_l01Sizes.calls a0_0 a0_1 false _ A2.out).mono ?_); rintro e w' ⟨rfl, ⟨nd, rfl⟩⟩; (try first | exact ⟨rfl, _, World.drewN_drewN _ _ _⟩ | exact ⟨rfl, _, Eq.trans (World.drewN_drewN _ _ _) (congrArg (World.drewN _) (Nat.add_assoc _ _ _))⟩)))
  repeat (go_quiet (first | ((with_reducible refine gate_dst (N := 1) rfl ?_); refine zX 1 (#[.int .i64 a0_0, .int .i64 a0_1, .slice A0_2 l0_2.length c0_2]) 32 ?_; intro gb156 hg w49 hbox hb; have BK156 := zA (hbox); have GW156 := zA (zG : w.heap.size ≤ gb156); have GE156 := zA (zG : w.heap.size ≤ gb156); replace HB := zA (below_step zB hb); clear hb hbox hg; obtain ⟨hcz50_0, hcz50_1, hcz50_2, hfz50_0, hfz50_1, hfz50_2⟩ := zC3 BK156) | (go_at_call 98; (with_reducible refine (spec_l01Sizes.calls a0_0 a0_1 false _ A2.out).mono ?_); rintro e w' ⟨rfl, ⟨nd, rfl⟩⟩; (try first | exact ⟨rfl, _, World.drewN_drewN _ _ _⟩ | exact ⟨rfl, _, Eq.trans (World.drewN_drewN _ _ _) (congrArg (World.drewN _) (Nat.add_assoc _ _ _))⟩))); try go_wp2_with (first | ((with_reducible refine gate_dst (N := 1) rfl ?_); refine zX 1 (#[.int .i64 a0_0, .int .i64 a0_1, .slice A0_2 l0_2.length c0_2]) 32 ?_; intro gb156 hg w49 hbox hb; have BK156 := zA (hbox); have GW156 := zA (zG : w.heap.size ≤ gb156); have GE156 := zA (zG : w.heap.size ≤ gb156); replace HB := zA (below_step zB hb); clear hb hbox hg; obtain ⟨hcz50_0, hcz50_1, hcz50_2, hfz50_0, hfz50_1, hfz50_2⟩ := zC3 BK156) | (go_at_call 98; (with_reducible refine (spec_l01Sizes.calls a0_0 a0_1 false _ A2.out).mono ?_); rintro e w' ⟨rfl, ⟨nd, rfl⟩⟩; (try first | exact ⟨rfl, _, World.drewN_drewN _ _ _⟩ | exact ⟨rfl, _, Eq.trans (World.drewN_drewN _ _ _) (congrArg (World.drewN _) (Nat.add_assoc _ _ _))⟩))))
  go_ret
  exact ⟨by rfl, zB⟩

end Go.Proofs.Ytcklefgkbddlhaa.P
