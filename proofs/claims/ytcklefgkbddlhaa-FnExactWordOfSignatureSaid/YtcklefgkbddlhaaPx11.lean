/- What a call of each Go function named below comes to is what the plain Lean function beside it says. Made by a program of this session out of the print of the translation; Lean checks it. -/
import Derived.Test.YtcklefgkbddlhaaPx0
import Derived.Test.YtcklefgkbddlhaaPx10
namespace Go.Proofs.Ytcklefgkbddlhaa.P
open Go.RowKit Go.Proofs.YtcklefgkbddlhaaW.PrintWords Go.Proofs.YtcklefgkbddlhaaW.PrintLast Go.Proofs.YtcklefgkbddlhaaW.PrintMore
attribute [local go_sem] max2_int min2_int max_two min_two max_three min_three max_four min_four   -- for this text's walks alone
set_option linter.unusedVariables false
set_option linter.unusedSimpArgs false


/-! ### impl_areTerms: function 111 -/
def impl_areTerms.l0 : Nat → Int → Int → List (S89) → List (S89) → Int → Int → Option (Bool)
 | 0, _, _, _, _, _, _ => none
 | k + 1, x0, x1, x2, x9, x10, x11 => if x11 < x10 then (if 0 ≤ x11 then (if x11 < (x9.length : Int) then ((impl_isWord.f k x0 ((rd_T89 x9 x11).f0) x1).bind fun t333 => (if t333 = true then ((impl_IsFraction.f k ((rd_T89 x9 x11).f1.f0) ((rd_T89 x9 x11).f1.f1)).bind fun t334 => (if t334 = true then (if ((rd_T89 x9 x11).f1.f0) = 0 then (some false) else (if x11 > 0 then (if 0 ≤ (wrap64 (x11 - 1)) then (if (wrap64 (x11 - 1)) < (x2.length : Int) then ((impl_compareWords.f ((rd_T89 x2 (wrap64 (x11 - 1))).f0) ((rd_T89 x9 x11).f0)).bind fun t336 => (if t336 ≥ 0 then (some false) else (impl_areTerms.l0 k x0 x1 x2 x9 x10 (wrap64 (x11 + 1))))) else (none)) else (none)) else (impl_areTerms.l0 k x0 x1 x2 x9 x10 (wrap64 (x11 + 1))))) else (some false))) else (some false))) else (none)) else (none)) else (some true)
def impl_areTerms.f (k : Nat) (a0 : Int) (a1 : Int) (l2 : List (S89)) : Option (Bool) := impl_areTerms.l0 k a0 a1 l2 l2 (l2.length : Int) 0
def impl_areTerms.T4 : Bool × List (List Nat × List Nat) := (true, [([], []), ([], []), ([1], [1]), ([], []), ([0, 2, 3], [0, 2, 3]), ([4], [4]), ([5, 4], [5]), ([6], [6]), ([7, 6], [6, 7]), ([8, 6, 6], [6, 8]), ([9, 6], [6, 9]), ([6, 10], [6, 10]), ([11, 9], [11]), ([12], [12]), ([13, 12], [12, 13]), ([14, 12], [12, 14]), ([15, 12], [12, 15]), ([12, 16], [12, 16]), ([17, 12], [17]), ([18], [18]), ([19, 18], [18, 19]), ([20, 18, 18], [18, 20]), ([21], [21]), ([21], [21]), ([23, 21], [21, 23]), ([22, 24, 21], [21, 22, 24]), ([25, 21], [21, 25]), ([26, 21], [21, 26]), ([21], [21]), ([28, 21], [21, 28]), ([27, 29, 21, 21], [21, 27, 29]), ([30, 21], [21, 30]), ([21, 31, 18], [18, 21, 31]), ([18, 32], [18, 32])])
def impl_areTerms.B4 : List Nat := [0, 0, 2, 0, 15, 31, 63, 127, 255, 511, 1023, 2047, 4095, 8191, 16383, 32767, 65535, 131071, 262143, 524287, 1048575, 2097151, 4194303, 4194303, 12582911, 33554431, 67108863, 134217727, 4194303, 272629759, 1073741823, 2147483647, 4294967295, 8589934591]
theorem impl_areTerms.tab4 : rtab .any (opsOf Try.f111 4) = impl_areTerms.T4 := by kernel_rfl
theorem impl_areTerms.bits4 : waitsOk impl_areTerms.T4.2 impl_areTerms.B4 = true := by kernel_rfl
set_option maxHeartbeats 8000000 in
set_option maxRecDepth 100000 in
theorem impl_areTerms.calls (k : Nat) (a0 : Int) (a1 : Int) (A2 : Option Addr) (c2 : Nat) (l2 : List (S89)) (r : Bool) (w : World) (hr2 : Kd.C k89 w A2 l2.length l2) (hc2 : l2.length ≤ c2) (h : impl_areTerms.f k a0 a1 l2 = some r) :
 Calls Try.prog 111 #[.int .i64 a0, .int .i64 a1, .slice A2 l2.length c2] w fun e w' => e = .returned (.bool r) ∧ Below w.heap.size w w' := by
 have hu89 := Try.underlying89
 have hu27 := Try.underlying27
 have HR2 := zA hr2
 have HC2 := zA hc2
 clear hr2 hc2
 have HB := zA (Below.refl w.heap.size w)
 have H : (impl_areTerms.l0 k a0 a1 l2 l2 (l2.length : Int) 0) = some r := h
 clear h
 have H' := zA H
 clear H
 go_enter Try.func111, Try.ntmps111
 go_wp2
 go_loopg [11] k (fun kq v11 w' => ∃ (x11_1 : Int), v11 = .int .i64 x11_1 ∧ Aside0 (impl_areTerms.l0 kq a0 a1 l2 l2 (l2.length : Int) x11_1 = some r) ∧ Aside0 (kq ≤ k) ∧ Aside0 (Below w.heap.size w w'))
 case atStart => exact ⟨(0), (by rfl), H', ⟨Nat.le_refl _⟩, ⟨zB⟩⟩
 case round =>
  clear H'
  obtain ⟨x11_1, rfl, HA, HK1, HB⟩ := hrel
  cases gk with
  | zero => exact absurd HA.out (by simp [impl_areTerms.l0])
  | succ k1 =>
   have H := HA.out
   clear HA
   simp only [impl_areTerms.l0] at H
   by_cases c4 : x11_1 < (l2.length : Int)
   ·rw [if_pos c4] at H
    have c4b0 : decide (x11_1 < (l2.length : Int)) = true := decide_eq_true c4
    clear c4
    by_cases c5 : 0 ≤ x11_1
    ·rw [if_pos c5] at H
     have c5b0 : decide (0 ≤ x11_1) = true := decide_eq_true c5
     clear c5
     by_cases c6 : x11_1 < (l2.length : Int)
     ·rw [if_pos c6] at H
      have c6b0 : decide (x11_1 < (l2.length : Int)) = true := decide_eq_true c6
      clear c6
      replace H := Option.bind_eq_some_iff.mp H
      obtain ⟨t333, A70, H⟩ := H
      replace H : (if t333 = true then ((impl_IsFraction.f k1 ((rd_T89 l2 x11_1).f1.f0) ((rd_T89 l2 x11_1).f1.f1)).bind fun t334 => (if t334 = true then (if ((rd_T89 l2 x11_1).f1.f0) = 0 then (some false) else (if x11_1 > 0 then (if 0 ≤ (wrap64 (x11_1 - 1)) then (if (wrap64 (x11_1 - 1)) < (l2.length : Int) then ((impl_compareWords.f ((rd_T89 l2 (wrap64 (x11_1 - 1))).f0) ((rd_T89 l2 x11_1).f0)).bind fun t336 => (if t336 ≥ 0 then (some false) else (impl_areTerms.l0 k1 a0 a1 l2 l2 (l2.length : Int) (wrap64 (x11_1 + 1))))) else (none)) else (none)) else (impl_areTerms.l0 k1 a0 a1 l2 l2 (l2.length : Int) (wrap64 (x11_1 + 1))))) else (some false))) else (some false)) = some r := H
      have A7 := zA A70
      clear A70
      by_cases c8 : t333 = true
      ·subst c8
       have H1 : ((impl_IsFraction.f k1 ((rd_T89 l2 x11_1).f1.f0) ((rd_T89 l2 x11_1).f1.f1)).bind fun t334 => (if t334 = true then (if ((rd_T89 l2 x11_1).f1.f0) = 0 then (some false) else (if x11_1 > 0 then (if 0 ≤ (wrap64 (x11_1 - 1)) then (if (wrap64 (x11_1 - 1)) < (l2.length : Int) then ((impl_compareWords.f ((rd_T89 l2 (wrap64 (x11_1 - 1))).f0) ((rd_T89 l2 x11_1).f0)).bind fun t336 => (if t336 ≥ 0 then (some false) else (impl_areTerms.l0 k1 a0 a1 l2 l2 (l2.length : Int) (wrap64 (x11_1 + 1))))) else (none)) else (none)) else (impl_areTerms.l0 k1 a0 a1 l2 l2 (l2.length : Int) (wrap64 (x11_1 + 1))))) else (some false))) = some r := by rw [if_pos rfl] at H; exact H
       clear H
       have H := H1
       clear H1
       replace H := Option.bind_eq_some_iff.mp H
       obtain ⟨t334, A90, H⟩ := H
       replace H : (if t334 = true then (if ((rd_T89 l2 x11_1).f1.f0) = 0 then (some false) else (if x11_1 > 0 then (if 0 ≤ (wrap64 (x11_1 - 1)) then (if (wrap64 (x11_1 - 1)) < (l2.length : Int) then ((impl_compareWords.f ((rd_T89 l2 (wrap64 (x11_1 - 1))).f0) ((rd_T89 l2 x11_1).f0)).bind fun t336 => (if t336 ≥ 0 then (some false) else (impl_areTerms.l0 k1 a0 a1 l2 l2 (l2.length : Int) (wrap64 (x11_1 + 1))))) else (none)) else (none)) else (impl_areTerms.l0 k1 a0 a1 l2 l2 (l2.length : Int) (wrap64 (x11_1 + 1))))) else (some false)) = some r := H
       have A9 := zA A90
       clear A90
       by_cases c10 : t334 = true
       ·subst c10
        have H1 : (if ((rd_T89 l2 x11_1).f1.f0) = 0 then (some false) else (if x11_1 > 0 then (if 0 ≤ (wrap64 (x11_1 - 1)) then (if (wrap64 (x11_1 - 1)) < (l2.length : Int) then ((impl_compareWords.f ((rd_T89 l2 (wrap64 (x11_1 - 1))).f0) ((rd_T89 l2 x11_1).f0)).bind fun t336 => (if t336 ≥ 0 then (some false) else (impl_areTerms.l0 k1 a0 a1 l2 l2 (l2.length : Int) (wrap64 (x11_1 + 1))))) else (none)) else (none)) else (impl_areTerms.l0 k1 a0 a1 l2 l2 (l2.length : Int) (wrap64 (x11_1 + 1))))) = some r := by rw [if_pos rfl] at H; exact H
        clear H
        have H := H1
        clear H1
        by_cases c11 : ((rd_T89 l2 x11_1).f1.f0) = 0
        ·rw [if_pos c11] at H
         have c11b0 : (((rd_T89 l2 x11_1).f1.f0) == 0) = true := beq_iff_eq.mpr c11
         have c11b1 : (((rd_T89 l2 x11_1).f1.f0) != 0) = false := bne_eq_false_iff_eq.mpr c11
         clear c11
         obtain rfl := Option.some.inj H
         have p331 : 0 ≤ (x11_1 : Int) := zD
         have q331 : x11_1 < (l2.length : Int) := zD
         obtain ⟨ad331, e331, hx331_0, hx331_1, hx331_2⟩ := at_T89 HR2.out x11_1 p331 q331
         cases e331
         replace hx331_0 := zH HB hx331_0
         replace hx331_1 := zH HB hx331_1
         replace hx331_2 := zH HB hx331_2
         replace p331 := eq_true p331
         replace q331 := eq_true q331
         try go_wp2_with (first | ((with_reducible refine gate_dst (N := 8) rfl ?_); refine zX 8 (#[.string (⟨#[]⟩ : ByteArray), .int .i64 0, .int .i64 0]) 89 ?_; intro gb332 hg w12 hbox hb; have BK332 := zA (hbox); have GW332 := zA (zG : w.heap.size ≤ gb332); have GE332 := zA (zG : w.heap.size ≤ gb332); replace HB := zA (below_step zB hb); clear hb hbox hg; obtain ⟨hcz13_0, hcz13_1, hcz13_2, hfz13_0, hfz13_1, hfz13_2⟩ := zC3 BK332))
         have n0_ : Aside0 ((((w12.setCell ⟨gb332, 0, none⟩ (.string ((rd_T89 l2 x11_1).f0))).setCell ⟨gb332, 1, none⟩ (.int .i64 ((rd_T89 l2 x11_1).f1.f0))).setCell ⟨gb332, 2, none⟩ (.int .i64 ((rd_T89 l2 x11_1).f1.f1))).heap[gb332]? = some (.cells #[.string ((rd_T89 l2 x11_1).f0), .int .i64 ((rd_T89 l2 x11_1).f1.f0), .int .i64 ((rd_T89 l2 x11_1).f1.f1)] 89 (0, 0))) := ⟨by refine blk_put (cs := #[.string ((rd_T89 l2 x11_1).f0), .int .i64 ((rd_T89 l2 x11_1).f1.f0), .int .i64 0]) ?_ 2 _ rfl; refine blk_put (cs := #[.string ((rd_T89 l2 x11_1).f0), .int .i64 0, .int .i64 0]) ?_ 1 _ rfl; refine blk_put (cs := #[.string (⟨#[]⟩ : ByteArray), .int .i64 0, .int .i64 0]) ?_ 0 _ rfl; exact BK332.out⟩
         have n1_ : Aside0 (Below w.heap.size w (((w12.setCell ⟨gb332, 0, none⟩ (.string ((rd_T89 l2 x11_1).f0))).setCell ⟨gb332, 1, none⟩ (.int .i64 ((rd_T89 l2 x11_1).f1.f0))).setCell ⟨gb332, 2, none⟩ (.int .i64 ((rd_T89 l2 x11_1).f1.f1)))) := ⟨zB⟩
         (try clear BK332)
         (try clear HB)
         generalize (((w12.setCell ⟨gb332, 0, none⟩ (.string ((rd_T89 l2 x11_1).f0))).setCell ⟨gb332, 1, none⟩ (.int .i64 ((rd_T89 l2 x11_1).f1.f0))).setCell ⟨gb332, 2, none⟩ (.int .i64 ((rd_T89 l2 x11_1).f1.f1))) = w14 at n0_ n1_ ⊢
         have BK332 := n0_
         have HB := n1_
         clear n0_ n1_
         replace BK332 := zA (blk_drew BK332.out)
         replace HB := zA (below_drew1 HB.out)
         refine start_ (n := 34) (S := fun w' => w'.cell? ⟨gb332, 0, none⟩ = some (.string ((rd_T89 l2 x11_1).f0)) ∧ w'.cell? ⟨gb332, 1, none⟩ = some (.int .i64 ((rd_T89 l2 x11_1).f1.f0)) ∧ w'.cell? ⟨gb332, 2, none⟩ = some (.int .i64 ((rd_T89 l2 x11_1).f1.f1))) (ds := []) #[false, false, false, false, false, false, false, false, false, false, false, false, false, false, false, false, false, false, false, false, false, false, false, false, false, false, false, false, false, false, false, false, false, false] (by kernel_rfl) rfl rfl ⟨(blk_cell BK332.out 0).trans rfl, (blk_cell BK332.out 1).trans rfl, (blk_cell BK332.out 2).trans rfl⟩ (fun hHeld => ?_); refine with_tabW impl_areTerms.tab4 impl_areTerms.bits4 (fun HT_ HW_ => ?_)
         generalize w14.drew = w15 at BK332 HB hHeld ⊢
         refine zP 0 (N := some 16) (h := ?_)
         refine zP 1 (N := some 17) (h := ?_)
         refine zP 3 (N := some 19) (h := ?_)
         refine zT 2 hHeld (N := some 18) (h := ?_)
         refine one_ (i := 4) (N := some 20) #[true, true, true, true, true, false, false, false, false, false, false, false, false, false, false, false, false, false, false, false, false, false, false, false, false, false, false, false, false, false, false, false, false, false] rfl rfl (one_of HT_.out (by kernel_rfl)) (by decide) (fun K hK => ?_)
         refine goes_ Try.func58 (by kernel_rfl) rfl #[.int .i64 a0, .string ((rd_T89 l2 x11_1).f0), .int .i64 a1] (by rfl) rfl rfl zM ?_
         with_reducible refine (impl_isWord.calls k1 a0 ((rd_T89 l2 x11_1).f0) a1 true _ A7.out).mono ?_
         rintro e w' ⟨rfl, ⟨nd, rfl⟩⟩
         refine ⟨_, rfl, ?_⟩
         refine hK.out _ _ ⟨(blk_cell BK332.out 0).trans rfl, (blk_cell BK332.out 1).trans rfl, (blk_cell BK332.out 2).trans rfl⟩ (fun hHeld => ?_)
         clear hK K
         refine norm_ (a' := ?_) ?_ ?_
         rotate_left
         ·show Act.put _ (some 20) _ = _
          simp only [Act.put, List.setIfInBounds_toArray, List.set, i64_w, i32_w]
          rfl
         refine zP 5 (N := some 21) (h := ?_)
         refine zP 6 (N := some 22) (h := ?_)
         refine zP 7 (N := some 23) (h := ?_)
         refine zT 8 hHeld (N := some 24) (h := ?_)
         refine one_ (i := 9) (N := some 25) #[true, true, true, true, true, true, true, true, true, true, false, false, false, false, false, false, false, false, false, false, false, false, false, false, false, false, false, false, false, false, false, false, false, false] rfl rfl (one_of HT_.out (by kernel_rfl)) (by decide) (fun K hK => ?_)
         refine goes_ Try.func154 (by kernel_rfl) rfl #[.agg #[.int .i64 ((rd_T89 l2 x11_1).f1.f0), .int .i64 ((rd_T89 l2 x11_1).f1.f1)]] (by rfl) rfl rfl zM ?_
         with_reducible refine (impl_IsFraction.calls k1 ((rd_T89 l2 x11_1).f1.f0) ((rd_T89 l2 x11_1).f1.f1) true _ A9.out).mono ?_
         rintro e w16 ⟨rfl, hb⟩
         refine ⟨_, rfl, ?_⟩
         replace BK332 := zA (zW BK332 hb)
         replace HB := zA (below_step zB hb)
         (try clear hb)
         (try clear hb2)
         (try clear hk)
         (try clear hi)
         refine hK.out _ _ ⟨(blk_cell BK332.out 0).trans rfl, (blk_cell BK332.out 1).trans rfl, (blk_cell BK332.out 2).trans rfl⟩ (fun hHeld => ?_)
         clear hK K
         refine norm_ (a' := ?_) ?_ ?_
         rotate_left
         ·show Act.put _ (some 25) _ = _
          simp only [Act.put, List.setIfInBounds_toArray, List.set, i64_w, i32_w]
          rfl
         refine zP 10 (N := some 26) (h := ?_)
         refine zP 11 (N := some 27) (h := ?_)
         refine zP 12 (N := some 28) (h := ?_)
         refine zP 13 (N := some 29) (h := ?_)
         refine zP 14 (N := some 30) (h := ?_)
         refine zT 15 hHeld (N := some 31) (h := ?_)
         refine zP 16 (N := some 32) (h := ?_)
         refine zP 17 (N := some 33) (h := ?_)
         refine zP 18 (N := some 34) (h := ?_)
         refine pure_ (i := 19) (N := some 35) (v := undef) (a' := ?_) #[true, true, true, true, true, true, true, true, true, true, true, true, true, true, true, true, true, true, true, true, false, false, false, false, false, false, false, false, false, false, false, false, false, false] rfl rfl (any_of HT_.out (by kernel_rfl)) (fun _ _ _ h => h) (Or.inr ⟨by rfl, rfl⟩) ?_ ?_
         rotate_left
         ·simp only [Act.put, List.setIfInBounds_toArray, List.set, i64_w, i32_w]
          rfl
         refine pure_ (i := 20) (N := some 36) (v := undef) (a' := ?_) #[true, true, true, true, true, true, true, true, true, true, true, true, true, true, true, true, true, true, true, true, true, false, false, false, false, false, false, false, false, false, false, false, false, false] rfl rfl (any_of HT_.out (by kernel_rfl)) (fun _ _ _ h => h) (Or.inr ⟨by rfl, rfl⟩) ?_ ?_
         rotate_left
         ·simp only [Act.put, List.setIfInBounds_toArray, List.set, i64_w, i32_w]
          rfl
         refine pure_ (i := 21) (N := some 37) (v := undef) (a' := ?_) #[true, true, true, true, true, true, true, true, true, true, true, true, true, true, true, true, true, true, true, true, true, true, false, false, false, false, false, false, false, false, false, false, false, false] rfl rfl (any_of HT_.out (by kernel_rfl)) (fun _ _ _ h => h) (Or.inr ⟨by rfl, rfl⟩) ?_ ?_
         rotate_left
         ·simp only [Act.put, List.setIfInBounds_toArray, List.set, i64_w, i32_w]
          rfl
         refine pure_ (i := 22) (N := some 38) (v := undef) (a' := ?_) #[true, true, true, true, true, true, true, true, true, true, true, true, true, true, true, true, true, true, true, true, true, true, true, false, false, false, false, false, false, false, false, false, false, false] rfl rfl (any_of HT_.out (by kernel_rfl)) (fun _ _ _ h => h) (Or.inr ⟨by rfl, rfl⟩) ?_ ?_
         rotate_left
         ·simp only [Act.put, List.setIfInBounds_toArray, List.set, i64_w, i32_w]
          rfl
         refine pure_ (i := 23) (N := some 39) (v := undef) (a' := ?_) #[true, true, true, true, true, true, true, true, true, true, true, true, true, true, true, true, true, true, true, true, true, true, true, true, false, false, false, false, false, false, false, false, false, false] rfl rfl (any_of HT_.out (by kernel_rfl)) (fun _ _ _ h => h) (Or.inr ⟨by rfl, rfl⟩) ?_ ?_
         rotate_left
         ·simp only [Act.put, List.setIfInBounds_toArray, List.set, i64_w, i32_w]
          rfl
         refine pure_ (i := 24) (N := some 40) (v := undef) (a' := ?_) #[true, true, true, true, true, true, true, true, true, true, true, true, true, true, true, true, true, true, true, true, true, true, true, true, true, false, false, false, false, false, false, false, false, false] rfl rfl (any_of HT_.out (by kernel_rfl)) (fun _ _ _ h => h) (Or.inr ⟨by rfl, rfl⟩) ?_ ?_
         rotate_left
         ·simp only [Act.put, List.setIfInBounds_toArray, List.set, i64_w, i32_w]
          rfl
         refine pure_ (i := 25) (N := some 41) (v := undef) (a' := ?_) #[true, true, true, true, true, true, true, true, true, true, true, true, true, true, true, true, true, true, true, true, true, true, true, true, true, true, false, false, false, false, false, false, false, false] rfl rfl (any_of HT_.out (by kernel_rfl)) (fun _ _ _ h => h) (Or.inr ⟨by rfl, rfl⟩) ?_ ?_
         rotate_left
         ·simp only [Act.put, List.setIfInBounds_toArray, List.set, i64_w, i32_w]
          rfl
         refine pure_ (i := 26) (N := some 42) (v := undef) (a' := ?_) #[true, true, true, true, true, true, true, true, true, true, true, true, true, true, true, true, true, true, true, true, true, true, true, true, true, true, true, false, false, false, false, false, false, false] rfl rfl (any_of HT_.out (by kernel_rfl)) (fun _ _ _ h => h) (Or.inr ⟨by rfl, rfl⟩) ?_ ?_
         rotate_left
         ·simp only [Act.put, List.setIfInBounds_toArray, List.set, i64_w, i32_w]
          rfl
         refine pure_ (i := 27) (N := some 43) (v := undef) (a' := ?_) #[true, true, true, true, true, true, true, true, true, true, true, true, true, true, true, true, true, true, true, true, true, true, true, true, true, true, true, true, false, false, false, false, false, false] rfl rfl (any_of HT_.out (by kernel_rfl)) (fun _ _ _ h => h) (Or.inr ⟨by rfl, rfl⟩) ?_ ?_
         rotate_left
         ·simp only [Act.put, List.setIfInBounds_toArray, List.set, i64_w, i32_w]
          rfl
         refine pure_ (i := 28) (N := some 44) (v := undef) (a' := ?_) #[true, true, true, true, true, true, true, true, true, true, true, true, true, true, true, true, true, true, true, true, true, true, true, true, true, true, true, true, true, false, false, false, false, false] rfl rfl (any_of HT_.out (by kernel_rfl)) (fun _ _ _ h => h) (Or.inr ⟨by rfl, rfl⟩) ?_ ?_
         rotate_left
         ·simp only [Act.put, List.setIfInBounds_toArray, List.set, i64_w, i32_w]
          rfl
         refine pure_ (i := 29) (N := some 45) (v := undef) (a' := ?_) #[true, true, true, true, true, true, true, true, true, true, true, true, true, true, true, true, true, true, true, true, true, true, true, true, true, true, true, true, true, true, false, false, false, false] rfl rfl (any_of HT_.out (by kernel_rfl)) (fun _ _ _ h => h) (Or.inr ⟨by rfl, rfl⟩) ?_ ?_
         rotate_left
         ·simp only [Act.put, List.setIfInBounds_toArray, List.set, i64_w, i32_w]
          rfl
         refine pure_ (i := 30) (N := some 46) (v := undef) (a' := ?_) #[true, true, true, true, true, true, true, true, true, true, true, true, true, true, true, true, true, true, true, true, true, true, true, true, true, true, true, true, true, true, true, false, false, false] rfl rfl (any_of HT_.out (by kernel_rfl)) (fun _ _ _ h => h) (Or.inr ⟨by rfl, rfl⟩) ?_ ?_
         rotate_left
         ·simp only [Act.put, List.setIfInBounds_toArray, List.set, i64_w, i32_w]
          rfl
         refine pure_ (i := 31) (N := some 47) (v := undef) (a' := ?_) #[true, true, true, true, true, true, true, true, true, true, true, true, true, true, true, true, true, true, true, true, true, true, true, true, true, true, true, true, true, true, true, true, false, false] rfl rfl (any_of HT_.out (by kernel_rfl)) (fun _ _ _ h => h) (Or.inr ⟨by rfl, rfl⟩) ?_ ?_
         rotate_left
         ·simp only [Act.put, List.setIfInBounds_toArray, List.set, i64_w, i32_w]
          rfl
         refine pure_ (i := 32) (N := some 48) (v := undef) (a' := ?_) #[true, true, true, true, true, true, true, true, true, true, true, true, true, true, true, true, true, true, true, true, true, true, true, true, true, true, true, true, true, true, true, true, true, false] rfl rfl (any_of HT_.out (by kernel_rfl)) (fun _ _ _ h => h) (Or.inr ⟨by rfl, rfl⟩) ?_ ?_
         rotate_left
         ·simp only [Act.put, List.setIfInBounds_toArray, List.set, i64_w, i32_w]
          rfl
         refine zP 33 (N := some 49) (h := ?_)
         refine done_ (done_of HT_.out (by kernel_rfl)) ?_
         try go_wp2
         go_ret
         exact ⟨by rfl, zB⟩
        ·rw [if_neg c11] at H
         have c11b0 : (((rd_T89 l2 x11_1).f1.f0) == 0) = false := beq_eq_false_iff_ne.mpr c11
         have c11b1 : (((rd_T89 l2 x11_1).f1.f0) != 0) = true := bne_iff_ne.mpr c11
         by_cases c17 : x11_1 > 0
         ·rw [if_pos c17] at H
          have c17b0 : decide (0 < x11_1) = true := decide_eq_true c17
          clear c17
          obtain ⟨ji18, hji18⟩ : ∃ j_ : Int, (wrap64 (x11_1 - 1)) = j_ := ⟨_, rfl⟩
          replace H : (if 0 ≤ (ji18) then (if (ji18) < (l2.length : Int) then ((impl_compareWords.f ((rd_T89 l2 (ji18)).f0) ((rd_T89 l2 x11_1).f0)).bind fun t336 => (if t336 ≥ 0 then (some false) else (impl_areTerms.l0 k1 a0 a1 l2 l2 (l2.length : Int) (wrap64 (x11_1 + 1))))) else (none)) else (none)) = some r := by (rw [hji18] at H; exact H)
          (try rw [hji18] at A7)
          (try rw [hji18] at A9)
          have hji18w : (IntKind.i64.wrap (x11_1 - 1)) = ji18 := (i64_w _).trans hji18
          by_cases c19 : 0 ≤ (ji18)
          ·rw [if_pos c19] at H
           have c19b0 : decide (0 ≤ (ji18)) = true := decide_eq_true c19
           clear c19
           by_cases c20 : (ji18) < (l2.length : Int)
           ·rw [if_pos c20] at H
            have c20b0 : decide ((ji18) < (l2.length : Int)) = true := decide_eq_true c20
            clear c20
            replace H := Option.bind_eq_some_iff.mp H
            obtain ⟨t336, A210, H⟩ := H
            replace H : (if t336 ≥ 0 then (some false) else (impl_areTerms.l0 k1 a0 a1 l2 l2 (l2.length : Int) (wrap64 (x11_1 + 1)))) = some r := H
            have A21 := zA A210
            clear A210
            by_cases c22 : t336 ≥ 0
            ·rw [if_pos c22] at H
             have c22b0 : decide (0 ≤ t336) = true := decide_eq_true c22
             clear c22
             obtain rfl := Option.some.inj H
             have p331 : 0 ≤ (x11_1 : Int) := zD
             have q331 : x11_1 < (l2.length : Int) := zD
             obtain ⟨ad331, e331, hx331_0, hx331_1, hx331_2⟩ := at_T89 HR2.out x11_1 p331 q331
             cases e331
             replace hx331_0 := zH HB hx331_0
             replace hx331_1 := zH HB hx331_1
             replace hx331_2 := zH HB hx331_2
             replace p331 := eq_true p331
             replace q331 := eq_true q331
             try go_wp2_with (first | ((with_reducible refine gate_dst (N := 8) rfl ?_); refine zX 8 (#[.string (⟨#[]⟩ : ByteArray), .int .i64 0, .int .i64 0]) 89 ?_; intro gb332 hg w23 hbox hb; have BK332 := zA (hbox); have GW332 := zA (zG : w.heap.size ≤ gb332); have GE332 := zA (zG : w.heap.size ≤ gb332); replace HB := zA (below_step zB hb); clear hb hbox hg; obtain ⟨hcz24_0, hcz24_1, hcz24_2, hfz24_0, hfz24_1, hfz24_2⟩ := zC3 BK332))
             have n0_ : Aside0 ((((w23.setCell ⟨gb332, 0, none⟩ (.string ((rd_T89 l2 x11_1).f0))).setCell ⟨gb332, 1, none⟩ (.int .i64 ((rd_T89 l2 x11_1).f1.f0))).setCell ⟨gb332, 2, none⟩ (.int .i64 ((rd_T89 l2 x11_1).f1.f1))).heap[gb332]? = some (.cells #[.string ((rd_T89 l2 x11_1).f0), .int .i64 ((rd_T89 l2 x11_1).f1.f0), .int .i64 ((rd_T89 l2 x11_1).f1.f1)] 89 (0, 0))) := ⟨by refine blk_put (cs := #[.string ((rd_T89 l2 x11_1).f0), .int .i64 ((rd_T89 l2 x11_1).f1.f0), .int .i64 0]) ?_ 2 _ rfl; refine blk_put (cs := #[.string ((rd_T89 l2 x11_1).f0), .int .i64 0, .int .i64 0]) ?_ 1 _ rfl; refine blk_put (cs := #[.string (⟨#[]⟩ : ByteArray), .int .i64 0, .int .i64 0]) ?_ 0 _ rfl; exact BK332.out⟩
             have n1_ : Aside0 (Below w.heap.size w (((w23.setCell ⟨gb332, 0, none⟩ (.string ((rd_T89 l2 x11_1).f0))).setCell ⟨gb332, 1, none⟩ (.int .i64 ((rd_T89 l2 x11_1).f1.f0))).setCell ⟨gb332, 2, none⟩ (.int .i64 ((rd_T89 l2 x11_1).f1.f1)))) := ⟨zB⟩
             (try clear BK332)
             (try clear HB)
             generalize (((w23.setCell ⟨gb332, 0, none⟩ (.string ((rd_T89 l2 x11_1).f0))).setCell ⟨gb332, 1, none⟩ (.int .i64 ((rd_T89 l2 x11_1).f1.f0))).setCell ⟨gb332, 2, none⟩ (.int .i64 ((rd_T89 l2 x11_1).f1.f1))) = w25 at n0_ n1_ ⊢
             have BK332 := n0_
             have HB := n1_
             clear n0_ n1_
             replace BK332 := zA (blk_drew BK332.out)
             replace HB := zA (below_drew1 HB.out)
             have p335 : 0 ≤ ((ji18) : Int) := zD
             have q335 : (ji18) < (l2.length : Int) := zD
             obtain ⟨ad335, e335, hx335_0, hx335_1, hx335_2⟩ := at_T89 HR2.out (ji18) p335 q335
             have hw335_2 := hx335_2
             have hw335_1 := hx335_1
             have hw335_0 := hx335_0
             obtain rfl : ad331 = ad335 := (by injection e335)
             replace hx335_0 := zH HB hx335_0
             replace hx335_1 := zH HB hx335_1
             replace hx335_2 := zH HB hx335_2
             replace p335 := eq_true p335
             replace q335 := eq_true q335
             refine start_ (n := 34) (S := fun w' => w'.cell? ⟨gb332, 0, none⟩ = some (.string ((rd_T89 l2 x11_1).f0)) ∧ w'.cell? ⟨gb332, 1, none⟩ = some (.int .i64 ((rd_T89 l2 x11_1).f1.f0)) ∧ w'.cell? ⟨gb332, 2, none⟩ = some (.int .i64 ((rd_T89 l2 x11_1).f1.f1)) ∧ w'.cell? (ad331.add (((ji18)).toNat * 3)) = some (.string ((rd_T89 l2 (ji18)).f0)) ∧ w'.cell? ⟨(ad331.add (((ji18)).toNat * 3)).block, (ad331.add (((ji18)).toNat * 3)).off + 1, none⟩ = some (.int .i64 ((rd_T89 l2 (ji18)).f1.f0)) ∧ w'.cell? ⟨(ad331.add (((ji18)).toNat * 3)).block, (ad331.add (((ji18)).toNat * 3)).off + 2, none⟩ = some (.int .i64 ((rd_T89 l2 (ji18)).f1.f1))) (ds := []) #[false, false, false, false, false, false, false, false, false, false, false, false, false, false, false, false, false, false, false, false, false, false, false, false, false, false, false, false, false, false, false, false, false, false] (by kernel_rfl) rfl rfl ⟨(blk_cell BK332.out 0).trans rfl, (blk_cell BK332.out 1).trans rfl, (blk_cell BK332.out 2).trans rfl, (zH HB hw335_0 :), (zH HB hw335_1 :), (zH HB hw335_2 :)⟩ (fun hHeld => ?_); refine with_tabW impl_areTerms.tab4 impl_areTerms.bits4 (fun HT_ HW_ => ?_)
             generalize w25.drew = w26 at BK332 HB hx335_0 hx335_1 hx335_2 hHeld ⊢
             refine zP 0 (N := some 16) (h := ?_)
             refine zP 1 (N := some 17) (h := ?_)
             refine zP 3 (N := some 19) (h := ?_)
             refine zT 2 hHeld (N := some 18) (h := ?_)
             refine one_ (i := 4) (N := some 20) #[true, true, true, true, true, false, false, false, false, false, false, false, false, false, false, false, false, false, false, false, false, false, false, false, false, false, false, false, false, false, false, false, false, false] rfl rfl (one_of HT_.out (by kernel_rfl)) (by decide) (fun K hK => ?_)
             refine goes_ Try.func58 (by kernel_rfl) rfl #[.int .i64 a0, .string ((rd_T89 l2 x11_1).f0), .int .i64 a1] (by rfl) rfl rfl zM ?_
             with_reducible refine (impl_isWord.calls k1 a0 ((rd_T89 l2 x11_1).f0) a1 true _ A7.out).mono ?_
             rintro e w' ⟨rfl, ⟨nd, rfl⟩⟩
             refine ⟨_, rfl, ?_⟩
             refine hK.out _ _ ⟨(blk_cell BK332.out 0).trans rfl, (blk_cell BK332.out 1).trans rfl, (blk_cell BK332.out 2).trans rfl, (zH HB hw335_0 :), (zH HB hw335_1 :), (zH HB hw335_2 :)⟩ (fun hHeld => ?_)
             clear hK K
             refine norm_ (a' := ?_) ?_ ?_
             rotate_left
             ·show Act.put _ (some 20) _ = _
              simp only [Act.put, List.setIfInBounds_toArray, List.set, i64_w, i32_w]
              rfl
             refine zP 5 (N := some 21) (h := ?_)
             refine zP 6 (N := some 22) (h := ?_)
             refine zP 7 (N := some 23) (h := ?_)
             refine zT 8 hHeld (N := some 24) (h := ?_)
             refine one_ (i := 9) (N := some 25) #[true, true, true, true, true, true, true, true, true, true, false, false, false, false, false, false, false, false, false, false, false, false, false, false, false, false, false, false, false, false, false, false, false, false] rfl rfl (one_of HT_.out (by kernel_rfl)) (by decide) (fun K hK => ?_)
             refine goes_ Try.func154 (by kernel_rfl) rfl #[.agg #[.int .i64 ((rd_T89 l2 x11_1).f1.f0), .int .i64 ((rd_T89 l2 x11_1).f1.f1)]] (by rfl) rfl rfl zM ?_
             with_reducible refine (impl_IsFraction.calls k1 ((rd_T89 l2 x11_1).f1.f0) ((rd_T89 l2 x11_1).f1.f1) true _ A9.out).mono ?_
             rintro e w27 ⟨rfl, hb⟩
             refine ⟨_, rfl, ?_⟩
             replace BK332 := zA (zW BK332 hb)
             replace HB := zA (below_step zB hb)
             (try clear hb)
             (try clear hb2)
             (try clear hk)
             (try clear hi)
             refine hK.out _ _ ⟨(blk_cell BK332.out 0).trans rfl, (blk_cell BK332.out 1).trans rfl, (blk_cell BK332.out 2).trans rfl, (zH HB hw335_0 :), (zH HB hw335_1 :), (zH HB hw335_2 :)⟩ (fun hHeld => ?_)
             clear hK K
             refine norm_ (a' := ?_) ?_ ?_
             rotate_left
             ·show Act.put _ (some 25) _ = _
              simp only [Act.put, List.setIfInBounds_toArray, List.set, i64_w, i32_w]
              rfl
             refine zP 10 (N := some 26) (h := ?_)
             refine zP 11 (N := some 27) (h := ?_)
             refine zP 12 (N := some 28) (h := ?_)
             refine zP 13 (N := some 29) (h := ?_)
             refine zP 14 (N := some 30) (h := ?_)
             refine zT 15 hHeld (N := some 31) (h := ?_)
             refine zP 16 (N := some 32) (h := ?_)
             refine zP 17 (N := some 33) (h := ?_)
             refine zP 18 (N := some 34) (h := ?_)
             refine zP 19 (N := some 35) (h := ?_)
             refine zP 20 (N := some 36) (h := ?_)
             refine zP 21 (N := some 37) (h := ?_)
             refine zP 22 (N := some 38) (h := ?_)
             refine zP 23 (N := some 39) (h := ?_)
             refine zP 24 (N := some 40) (h := ?_)
             refine zP 25 (N := some 41) (h := ?_)
             refine zP 26 (N := some 42) (h := ?_)
             refine zP 28 (N := some 44) (h := ?_)
             refine zT 27 hHeld (N := some 43) (h := ?_)
             refine zT 29 hHeld (N := some 45) (h := ?_)
             refine one_ (i := 30) (N := some 46) #[true, true, true, true, true, true, true, true, true, true, true, true, true, true, true, true, true, true, true, true, true, true, true, true, true, true, true, true, true, true, true, false, false, false] rfl rfl (one_of HT_.out (by kernel_rfl)) (by decide) (fun K hK => ?_)
             refine goes_ Try.func155 (by kernel_rfl) rfl #[.string ((rd_T89 l2 (ji18)).f0), .string ((rd_T89 l2 x11_1).f0)] (by rfl) rfl rfl (by (try simp only [List.map_toArray, List.map_cons, List.map_nil]); rfl) ?_
             with_reducible refine (impl_compareWords.calls ((rd_T89 l2 (ji18)).f0) ((rd_T89 l2 x11_1).f0) t336 _ A21.out).mono ?_
             rintro e w' ⟨rfl, ⟨nd, rfl⟩⟩
             refine ⟨_, rfl, ?_⟩
             refine hK.out _ _ ⟨(blk_cell BK332.out 0).trans rfl, (blk_cell BK332.out 1).trans rfl, (blk_cell BK332.out 2).trans rfl, (zH HB hw335_0 :), (zH HB hw335_1 :), (zH HB hw335_2 :)⟩ (fun hHeld => ?_)
             clear hK K
             refine norm_ (a' := ?_) ?_ ?_
             rotate_left
             ·show Act.put _ (some 46) _ = _
              simp only [Act.put, List.setIfInBounds_toArray, List.set, i64_w, i32_w]
              rfl
             refine zP 31 (N := some 47) (h := ?_)
             refine zP 32 (N := some 48) (h := ?_)
             refine zP 33 (N := some 49) (h := ?_)
             refine done_ (done_of HT_.out (by kernel_rfl)) ?_
             try go_wp2
             go_ret
             exact ⟨by rfl, zB⟩
            ·rw [if_neg c22] at H
             have c22b0 : decide (0 ≤ t336) = false := decide_eq_false c22
             clear c22
             have H' := zA H
             clear H
             have p331 : 0 ≤ (x11_1 : Int) := zD
             have q331 : x11_1 < (l2.length : Int) := zD
             obtain ⟨ad331, e331, hx331_0, hx331_1, hx331_2⟩ := at_T89 HR2.out x11_1 p331 q331
             cases e331
             replace hx331_0 := zH HB hx331_0
             replace hx331_1 := zH HB hx331_1
             replace hx331_2 := zH HB hx331_2
             replace p331 := eq_true p331
             replace q331 := eq_true q331
             try go_wp2_with (first | ((with_reducible refine gate_dst (N := 8) rfl ?_); refine zX 8 (#[.string (⟨#[]⟩ : ByteArray), .int .i64 0, .int .i64 0]) 89 ?_; intro gb332 hg w28 hbox hb; have BK332 := zA (hbox); have GW332 := zA (zG : w.heap.size ≤ gb332); have GE332 := zA (zG : w.heap.size ≤ gb332); replace HB := zA (below_step zB hb); clear hb hbox hg; obtain ⟨hcz29_0, hcz29_1, hcz29_2, hfz29_0, hfz29_1, hfz29_2⟩ := zC3 BK332))
             have n0_ : Aside0 ((((w28.setCell ⟨gb332, 0, none⟩ (.string ((rd_T89 l2 x11_1).f0))).setCell ⟨gb332, 1, none⟩ (.int .i64 ((rd_T89 l2 x11_1).f1.f0))).setCell ⟨gb332, 2, none⟩ (.int .i64 ((rd_T89 l2 x11_1).f1.f1))).heap[gb332]? = some (.cells #[.string ((rd_T89 l2 x11_1).f0), .int .i64 ((rd_T89 l2 x11_1).f1.f0), .int .i64 ((rd_T89 l2 x11_1).f1.f1)] 89 (0, 0))) := ⟨by refine blk_put (cs := #[.string ((rd_T89 l2 x11_1).f0), .int .i64 ((rd_T89 l2 x11_1).f1.f0), .int .i64 0]) ?_ 2 _ rfl; refine blk_put (cs := #[.string ((rd_T89 l2 x11_1).f0), .int .i64 0, .int .i64 0]) ?_ 1 _ rfl; refine blk_put (cs := #[.string (⟨#[]⟩ : ByteArray), .int .i64 0, .int .i64 0]) ?_ 0 _ rfl; exact BK332.out⟩
             have n1_ : Aside0 (Below w.heap.size w (((w28.setCell ⟨gb332, 0, none⟩ (.string ((rd_T89 l2 x11_1).f0))).setCell ⟨gb332, 1, none⟩ (.int .i64 ((rd_T89 l2 x11_1).f1.f0))).setCell ⟨gb332, 2, none⟩ (.int .i64 ((rd_T89 l2 x11_1).f1.f1)))) := ⟨zB⟩
             (try clear BK332)
             (try clear HB)
             generalize (((w28.setCell ⟨gb332, 0, none⟩ (.string ((rd_T89 l2 x11_1).f0))).setCell ⟨gb332, 1, none⟩ (.int .i64 ((rd_T89 l2 x11_1).f1.f0))).setCell ⟨gb332, 2, none⟩ (.int .i64 ((rd_T89 l2 x11_1).f1.f1))) = w30 at n0_ n1_ ⊢
             have BK332 := n0_
             have HB := n1_
             clear n0_ n1_
             replace BK332 := zA (blk_drew BK332.out)
             replace HB := zA (below_drew1 HB.out)
             have p335 : 0 ≤ ((ji18) : Int) := zD
             have q335 : (ji18) < (l2.length : Int) := zD
             obtain ⟨ad335, e335, hx335_0, hx335_1, hx335_2⟩ := at_T89 HR2.out (ji18) p335 q335
             have hw335_2 := hx335_2
             have hw335_1 := hx335_1
             have hw335_0 := hx335_0
             obtain rfl : ad331 = ad335 := (by injection e335)
             replace hx335_0 := zH HB hx335_0
             replace hx335_1 := zH HB hx335_1
             replace hx335_2 := zH HB hx335_2
             replace p335 := eq_true p335
             replace q335 := eq_true q335
             refine start_ (n := 34) (S := fun w' => w'.cell? ⟨gb332, 0, none⟩ = some (.string ((rd_T89 l2 x11_1).f0)) ∧ w'.cell? ⟨gb332, 1, none⟩ = some (.int .i64 ((rd_T89 l2 x11_1).f1.f0)) ∧ w'.cell? ⟨gb332, 2, none⟩ = some (.int .i64 ((rd_T89 l2 x11_1).f1.f1)) ∧ w'.cell? (ad331.add (((ji18)).toNat * 3)) = some (.string ((rd_T89 l2 (ji18)).f0)) ∧ w'.cell? ⟨(ad331.add (((ji18)).toNat * 3)).block, (ad331.add (((ji18)).toNat * 3)).off + 1, none⟩ = some (.int .i64 ((rd_T89 l2 (ji18)).f1.f0)) ∧ w'.cell? ⟨(ad331.add (((ji18)).toNat * 3)).block, (ad331.add (((ji18)).toNat * 3)).off + 2, none⟩ = some (.int .i64 ((rd_T89 l2 (ji18)).f1.f1))) (ds := []) #[false, false, false, false, false, false, false, false, false, false, false, false, false, false, false, false, false, false, false, false, false, false, false, false, false, false, false, false, false, false, false, false, false, false] (by kernel_rfl) rfl rfl ⟨(blk_cell BK332.out 0).trans rfl, (blk_cell BK332.out 1).trans rfl, (blk_cell BK332.out 2).trans rfl, (zH HB hw335_0 :), (zH HB hw335_1 :), (zH HB hw335_2 :)⟩ (fun hHeld => ?_); refine with_tabW impl_areTerms.tab4 impl_areTerms.bits4 (fun HT_ HW_ => ?_)
             generalize w30.drew = w31 at BK332 HB hx335_0 hx335_1 hx335_2 hHeld ⊢
             refine zP 0 (N := some 16) (h := ?_)
             refine zP 1 (N := some 17) (h := ?_)
             refine zP 3 (N := some 19) (h := ?_)
             refine zT 2 hHeld (N := some 18) (h := ?_)
             refine one_ (i := 4) (N := some 20) #[true, true, true, true, true, false, false, false, false, false, false, false, false, false, false, false, false, false, false, false, false, false, false, false, false, false, false, false, false, false, false, false, false, false] rfl rfl (one_of HT_.out (by kernel_rfl)) (by decide) (fun K hK => ?_)
             refine goes_ Try.func58 (by kernel_rfl) rfl #[.int .i64 a0, .string ((rd_T89 l2 x11_1).f0), .int .i64 a1] (by rfl) rfl rfl zM ?_
             with_reducible refine (impl_isWord.calls k1 a0 ((rd_T89 l2 x11_1).f0) a1 true _ A7.out).mono ?_
             rintro e w' ⟨rfl, ⟨nd, rfl⟩⟩
             refine ⟨_, rfl, ?_⟩
             refine hK.out _ _ ⟨(blk_cell BK332.out 0).trans rfl, (blk_cell BK332.out 1).trans rfl, (blk_cell BK332.out 2).trans rfl, (zH HB hw335_0 :), (zH HB hw335_1 :), (zH HB hw335_2 :)⟩ (fun hHeld => ?_)
             clear hK K
             refine norm_ (a' := ?_) ?_ ?_
             rotate_left
             ·show Act.put _ (some 20) _ = _
              simp only [Act.put, List.setIfInBounds_toArray, List.set, i64_w, i32_w]
              rfl
             refine zP 5 (N := some 21) (h := ?_)
             refine zP 6 (N := some 22) (h := ?_)
             refine zP 7 (N := some 23) (h := ?_)
             refine zT 8 hHeld (N := some 24) (h := ?_)
             refine one_ (i := 9) (N := some 25) #[true, true, true, true, true, true, true, true, true, true, false, false, false, false, false, false, false, false, false, false, false, false, false, false, false, false, false, false, false, false, false, false, false, false] rfl rfl (one_of HT_.out (by kernel_rfl)) (by decide) (fun K hK => ?_)
             refine goes_ Try.func154 (by kernel_rfl) rfl #[.agg #[.int .i64 ((rd_T89 l2 x11_1).f1.f0), .int .i64 ((rd_T89 l2 x11_1).f1.f1)]] (by rfl) rfl rfl zM ?_
             with_reducible refine (impl_IsFraction.calls k1 ((rd_T89 l2 x11_1).f1.f0) ((rd_T89 l2 x11_1).f1.f1) true _ A9.out).mono ?_
             rintro e w32 ⟨rfl, hb⟩
             refine ⟨_, rfl, ?_⟩
             replace BK332 := zA (zW BK332 hb)
             replace HB := zA (below_step zB hb)
             (try clear hb)
             (try clear hb2)
             (try clear hk)
             (try clear hi)
             refine hK.out _ _ ⟨(blk_cell BK332.out 0).trans rfl, (blk_cell BK332.out 1).trans rfl, (blk_cell BK332.out 2).trans rfl, (zH HB hw335_0 :), (zH HB hw335_1 :), (zH HB hw335_2 :)⟩ (fun hHeld => ?_)
             clear hK K
             refine norm_ (a' := ?_) ?_ ?_
             rotate_left
             ·show Act.put _ (some 25) _ = _
              simp only [Act.put, List.setIfInBounds_toArray, List.set, i64_w, i32_w]
              rfl
             refine zP 10 (N := some 26) (h := ?_)
             refine zP 11 (N := some 27) (h := ?_)
             refine zP 12 (N := some 28) (h := ?_)
             refine zP 13 (N := some 29) (h := ?_)
             refine zP 14 (N := some 30) (h := ?_)
             refine zT 15 hHeld (N := some 31) (h := ?_)
             refine zP 16 (N := some 32) (h := ?_)
             refine zP 17 (N := some 33) (h := ?_)
             refine zP 18 (N := some 34) (h := ?_)
             refine zP 19 (N := some 35) (h := ?_)
             refine zP 20 (N := some 36) (h := ?_)
             refine zP 21 (N := some 37) (h := ?_)
             refine zP 22 (N := some 38) (h := ?_)
             refine zP 23 (N := some 39) (h := ?_)
             refine zP 24 (N := some 40) (h := ?_)
             refine zP 25 (N := some 41) (h := ?_)
             refine zP 26 (N := some 42) (h := ?_)
             refine zP 28 (N := some 44) (h := ?_)
             refine zT 27 hHeld (N := some 43) (h := ?_)
             refine zT 29 hHeld (N := some 45) (h := ?_)
             refine one_ (i := 30) (N := some 46) #[true, true, true, true, true, true, true, true, true, true, true, true, true, true, true, true, true, true, true, true, true, true, true, true, true, true, true, true, true, true, true, false, false, false] rfl rfl (one_of HT_.out (by kernel_rfl)) (by decide) (fun K hK => ?_)
             refine goes_ Try.func155 (by kernel_rfl) rfl #[.string ((rd_T89 l2 (ji18)).f0), .string ((rd_T89 l2 x11_1).f0)] (by rfl) rfl rfl (by (try simp only [List.map_toArray, List.map_cons, List.map_nil]); rfl) ?_
             with_reducible refine (impl_compareWords.calls ((rd_T89 l2 (ji18)).f0) ((rd_T89 l2 x11_1).f0) t336 _ A21.out).mono ?_
             rintro e w' ⟨rfl, ⟨nd, rfl⟩⟩
             refine ⟨_, rfl, ?_⟩
             refine hK.out _ _ ⟨(blk_cell BK332.out 0).trans rfl, (blk_cell BK332.out 1).trans rfl, (blk_cell BK332.out 2).trans rfl, (zH HB hw335_0 :), (zH HB hw335_1 :), (zH HB hw335_2 :)⟩ (fun hHeld => ?_)
             clear hK K
             refine norm_ (a' := ?_) ?_ ?_
             rotate_left
             ·show Act.put _ (some 46) _ = _
              simp only [Act.put, List.setIfInBounds_toArray, List.set, i64_w, i32_w]
              rfl
             refine zP 31 (N := some 47) (h := ?_)
             refine zP 32 (N := some 48) (h := ?_)
             refine zP 33 (N := some 49) (h := ?_)
             refine done_ (done_of HT_.out (by kernel_rfl)) ?_
             try go_wp2
             go_roundg k1
             case measure => have := HK1.out; omega
             case rel => exact ⟨(wrap64 (x11_1 + 1)), (by rfl), H', ⟨by have := HK1.out; omega⟩, ⟨zB⟩⟩
           ·rw [if_neg c20] at H
            exact absurd H (by simp)
          ·rw [if_neg c19] at H
           exact absurd H (by simp)
         ·rw [if_neg c17] at H
          have c17b0 : decide (0 < x11_1) = false := decide_eq_false c17
          clear c17
          have H' := zA H
          clear H
          have p331 : 0 ≤ (x11_1 : Int) := zD
          have q331 : x11_1 < (l2.length : Int) := zD
          obtain ⟨ad331, e331, hx331_0, hx331_1, hx331_2⟩ := at_T89 HR2.out x11_1 p331 q331
          cases e331
          replace hx331_0 := zH HB hx331_0
          replace hx331_1 := zH HB hx331_1
          replace hx331_2 := zH HB hx331_2
          replace p331 := eq_true p331
          replace q331 := eq_true q331
          try go_wp2_with (first | ((with_reducible refine gate_dst (N := 8) rfl ?_); refine zX 8 (#[.string (⟨#[]⟩ : ByteArray), .int .i64 0, .int .i64 0]) 89 ?_; intro gb332 hg w33 hbox hb; have BK332 := zA (hbox); have GW332 := zA (zG : w.heap.size ≤ gb332); have GE332 := zA (zG : w.heap.size ≤ gb332); replace HB := zA (below_step zB hb); clear hb hbox hg; obtain ⟨hcz34_0, hcz34_1, hcz34_2, hfz34_0, hfz34_1, hfz34_2⟩ := zC3 BK332))
          have n0_ : Aside0 ((((w33.setCell ⟨gb332, 0, none⟩ (.string ((rd_T89 l2 x11_1).f0))).setCell ⟨gb332, 1, none⟩ (.int .i64 ((rd_T89 l2 x11_1).f1.f0))).setCell ⟨gb332, 2, none⟩ (.int .i64 ((rd_T89 l2 x11_1).f1.f1))).heap[gb332]? = some (.cells #[.string ((rd_T89 l2 x11_1).f0), .int .i64 ((rd_T89 l2 x11_1).f1.f0), .int .i64 ((rd_T89 l2 x11_1).f1.f1)] 89 (0, 0))) := ⟨by refine blk_put (cs := #[.string ((rd_T89 l2 x11_1).f0), .int .i64 ((rd_T89 l2 x11_1).f1.f0), .int .i64 0]) ?_ 2 _ rfl; refine blk_put (cs := #[.string ((rd_T89 l2 x11_1).f0), .int .i64 0, .int .i64 0]) ?_ 1 _ rfl; refine blk_put (cs := #[.string (⟨#[]⟩ : ByteArray), .int .i64 0, .int .i64 0]) ?_ 0 _ rfl; exact BK332.out⟩
          have n1_ : Aside0 (Below w.heap.size w (((w33.setCell ⟨gb332, 0, none⟩ (.string ((rd_T89 l2 x11_1).f0))).setCell ⟨gb332, 1, none⟩ (.int .i64 ((rd_T89 l2 x11_1).f1.f0))).setCell ⟨gb332, 2, none⟩ (.int .i64 ((rd_T89 l2 x11_1).f1.f1)))) := ⟨zB⟩
          (try clear BK332)
          (try clear HB)
          generalize (((w33.setCell ⟨gb332, 0, none⟩ (.string ((rd_T89 l2 x11_1).f0))).setCell ⟨gb332, 1, none⟩ (.int .i64 ((rd_T89 l2 x11_1).f1.f0))).setCell ⟨gb332, 2, none⟩ (.int .i64 ((rd_T89 l2 x11_1).f1.f1))) = w35 at n0_ n1_ ⊢
          have BK332 := n0_
          have HB := n1_
          clear n0_ n1_
          replace BK332 := zA (blk_drew BK332.out)
          replace HB := zA (below_drew1 HB.out)
          refine start_ (n := 34) (S := fun w' => w'.cell? ⟨gb332, 0, none⟩ = some (.string ((rd_T89 l2 x11_1).f0)) ∧ w'.cell? ⟨gb332, 1, none⟩ = some (.int .i64 ((rd_T89 l2 x11_1).f1.f0)) ∧ w'.cell? ⟨gb332, 2, none⟩ = some (.int .i64 ((rd_T89 l2 x11_1).f1.f1))) (ds := []) #[false, false, false, false, false, false, false, false, false, false, false, false, false, false, false, false, false, false, false, false, false, false, false, false, false, false, false, false, false, false, false, false, false, false] (by kernel_rfl) rfl rfl ⟨(blk_cell BK332.out 0).trans rfl, (blk_cell BK332.out 1).trans rfl, (blk_cell BK332.out 2).trans rfl⟩ (fun hHeld => ?_); refine with_tabW impl_areTerms.tab4 impl_areTerms.bits4 (fun HT_ HW_ => ?_)
          generalize w35.drew = w36 at BK332 HB hHeld ⊢
          refine zP 0 (N := some 16) (h := ?_)
          refine zP 1 (N := some 17) (h := ?_)
          refine zP 3 (N := some 19) (h := ?_)
          refine zT 2 hHeld (N := some 18) (h := ?_)
          refine one_ (i := 4) (N := some 20) #[true, true, true, true, true, false, false, false, false, false, false, false, false, false, false, false, false, false, false, false, false, false, false, false, false, false, false, false, false, false, false, false, false, false] rfl rfl (one_of HT_.out (by kernel_rfl)) (by decide) (fun K hK => ?_)
          refine goes_ Try.func58 (by kernel_rfl) rfl #[.int .i64 a0, .string ((rd_T89 l2 x11_1).f0), .int .i64 a1] (by rfl) rfl rfl zM ?_
          with_reducible refine (impl_isWord.calls k1 a0 ((rd_T89 l2 x11_1).f0) a1 true _ A7.out).mono ?_
          rintro e w' ⟨rfl, ⟨nd, rfl⟩⟩
          refine ⟨_, rfl, ?_⟩
          refine hK.out _ _ ⟨(blk_cell BK332.out 0).trans rfl, (blk_cell BK332.out 1).trans rfl, (blk_cell BK332.out 2).trans rfl⟩ (fun hHeld => ?_)
          clear hK K
          refine norm_ (a' := ?_) ?_ ?_
          rotate_left
          ·show Act.put _ (some 20) _ = _
           simp only [Act.put, List.setIfInBounds_toArray, List.set, i64_w, i32_w]
           rfl
          refine zP 5 (N := some 21) (h := ?_)
          refine zP 6 (N := some 22) (h := ?_)
          refine zP 7 (N := some 23) (h := ?_)
          refine zT 8 hHeld (N := some 24) (h := ?_)
          refine one_ (i := 9) (N := some 25) #[true, true, true, true, true, true, true, true, true, true, false, false, false, false, false, false, false, false, false, false, false, false, false, false, false, false, false, false, false, false, false, false, false, false] rfl rfl (one_of HT_.out (by kernel_rfl)) (by decide) (fun K hK => ?_)
          refine goes_ Try.func154 (by kernel_rfl) rfl #[.agg #[.int .i64 ((rd_T89 l2 x11_1).f1.f0), .int .i64 ((rd_T89 l2 x11_1).f1.f1)]] (by rfl) rfl rfl zM ?_
          with_reducible refine (impl_IsFraction.calls k1 ((rd_T89 l2 x11_1).f1.f0) ((rd_T89 l2 x11_1).f1.f1) true _ A9.out).mono ?_
          rintro e w37 ⟨rfl, hb⟩
          refine ⟨_, rfl, ?_⟩
          replace BK332 := zA (zW BK332 hb)
          replace HB := zA (below_step zB hb)
          (try clear hb)
          (try clear hb2)
          (try clear hk)
          (try clear hi)
          refine hK.out _ _ ⟨(blk_cell BK332.out 0).trans rfl, (blk_cell BK332.out 1).trans rfl, (blk_cell BK332.out 2).trans rfl⟩ (fun hHeld => ?_)
          clear hK K
          refine norm_ (a' := ?_) ?_ ?_
          rotate_left
          ·show Act.put _ (some 25) _ = _
           simp only [Act.put, List.setIfInBounds_toArray, List.set, i64_w, i32_w]
           rfl
          refine zP 10 (N := some 26) (h := ?_)
          refine zP 11 (N := some 27) (h := ?_)
          refine zP 12 (N := some 28) (h := ?_)
          refine zP 13 (N := some 29) (h := ?_)
          refine zP 14 (N := some 30) (h := ?_)
          refine zT 15 hHeld (N := some 31) (h := ?_)
          refine zP 16 (N := some 32) (h := ?_)
          refine zP 17 (N := some 33) (h := ?_)
          refine zP 18 (N := some 34) (h := ?_)
          refine zP 19 (N := some 35) (h := ?_)
          refine zP 20 (N := some 36) (h := ?_)
          refine zP 21 (N := some 37) (h := ?_)
          refine pure_ (i := 22) (N := some 38) (v := undef) (a' := ?_) #[true, true, true, true, true, true, true, true, true, true, true, true, true, true, true, true, true, true, true, true, true, true, true, false, false, false, false, false, false, false, false, false, false, false] rfl rfl (any_of HT_.out (by kernel_rfl)) (fun _ _ _ h => h) (Or.inr ⟨by rfl, rfl⟩) ?_ ?_
          rotate_left
          ·simp only [Act.put, List.setIfInBounds_toArray, List.set, i64_w, i32_w]
           rfl
          refine pure_ (i := 23) (N := some 39) (v := undef) (a' := ?_) #[true, true, true, true, true, true, true, true, true, true, true, true, true, true, true, true, true, true, true, true, true, true, true, true, false, false, false, false, false, false, false, false, false, false] rfl rfl (any_of HT_.out (by kernel_rfl)) (fun _ _ _ h => h) (Or.inr ⟨by rfl, rfl⟩) ?_ ?_
          rotate_left
          ·simp only [Act.put, List.setIfInBounds_toArray, List.set, i64_w, i32_w]
           rfl
          refine pure_ (i := 24) (N := some 40) (v := undef) (a' := ?_) #[true, true, true, true, true, true, true, true, true, true, true, true, true, true, true, true, true, true, true, true, true, true, true, true, true, false, false, false, false, false, false, false, false, false] rfl rfl (any_of HT_.out (by kernel_rfl)) (fun _ _ _ h => h) (Or.inr ⟨by rfl, rfl⟩) ?_ ?_
          rotate_left
          ·simp only [Act.put, List.setIfInBounds_toArray, List.set, i64_w, i32_w]
           rfl
          refine pure_ (i := 25) (N := some 41) (v := undef) (a' := ?_) #[true, true, true, true, true, true, true, true, true, true, true, true, true, true, true, true, true, true, true, true, true, true, true, true, true, true, false, false, false, false, false, false, false, false] rfl rfl (any_of HT_.out (by kernel_rfl)) (fun _ _ _ h => h) (Or.inr ⟨by rfl, rfl⟩) ?_ ?_
          rotate_left
          ·simp only [Act.put, List.setIfInBounds_toArray, List.set, i64_w, i32_w]
           rfl
          refine pure_ (i := 26) (N := some 42) (v := undef) (a' := ?_) #[true, true, true, true, true, true, true, true, true, true, true, true, true, true, true, true, true, true, true, true, true, true, true, true, true, true, true, false, false, false, false, false, false, false] rfl rfl (any_of HT_.out (by kernel_rfl)) (fun _ _ _ h => h) (Or.inr ⟨by rfl, rfl⟩) ?_ ?_
          rotate_left
          ·simp only [Act.put, List.setIfInBounds_toArray, List.set, i64_w, i32_w]
           rfl
          refine pure_ (i := 27) (N := some 43) (v := undef) (a' := ?_) #[true, true, true, true, true, true, true, true, true, true, true, true, true, true, true, true, true, true, true, true, true, true, true, true, true, true, true, true, false, false, false, false, false, false] rfl rfl (any_of HT_.out (by kernel_rfl)) (fun _ _ _ h => h) (Or.inr ⟨by rfl, rfl⟩) ?_ ?_
          rotate_left
          ·simp only [Act.put, List.setIfInBounds_toArray, List.set, i64_w, i32_w]
           rfl
          refine pure_ (i := 28) (N := some 44) (v := undef) (a' := ?_) #[true, true, true, true, true, true, true, true, true, true, true, true, true, true, true, true, true, true, true, true, true, true, true, true, true, true, true, true, true, false, false, false, false, false] rfl rfl (any_of HT_.out (by kernel_rfl)) (fun _ _ _ h => h) (Or.inr ⟨by rfl, rfl⟩) ?_ ?_
          rotate_left
          ·simp only [Act.put, List.setIfInBounds_toArray, List.set, i64_w, i32_w]
           rfl
          refine pure_ (i := 29) (N := some 45) (v := undef) (a' := ?_) #[true, true, true, true, true, true, true, true, true, true, true, true, true, true, true, true, true, true, true, true, true, true, true, true, true, true, true, true, true, true, false, false, false, false] rfl rfl (any_of HT_.out (by kernel_rfl)) (fun _ _ _ h => h) (Or.inr ⟨by rfl, rfl⟩) ?_ ?_
          rotate_left
          ·simp only [Act.put, List.setIfInBounds_toArray, List.set, i64_w, i32_w]
           rfl
          refine pure_ (i := 30) (N := some 46) (v := undef) (a' := ?_) #[true, true, true, true, true, true, true, true, true, true, true, true, true, true, true, true, true, true, true, true, true, true, true, true, true, true, true, true, true, true, true, false, false, false] rfl rfl (any_of HT_.out (by kernel_rfl)) (fun _ _ _ h => h) (Or.inr ⟨by rfl, rfl⟩) ?_ ?_
          rotate_left
          ·simp only [Act.put, List.setIfInBounds_toArray, List.set, i64_w, i32_w]
           rfl
          refine pure_ (i := 31) (N := some 47) (v := undef) (a' := ?_) #[true, true, true, true, true, true, true, true, true, true, true, true, true, true, true, true, true, true, true, true, true, true, true, true, true, true, true, true, true, true, true, true, false, false] rfl rfl (any_of HT_.out (by kernel_rfl)) (fun _ _ _ h => h) (Or.inr ⟨by rfl, rfl⟩) ?_ ?_
          rotate_left
          ·simp only [Act.put, List.setIfInBounds_toArray, List.set, i64_w, i32_w]
           rfl
          refine zP 32 (N := some 48) (h := ?_)
          refine zP 33 (N := some 49) (h := ?_)
          refine done_ (done_of HT_.out (by kernel_rfl)) ?_
          try go_wp2
          go_roundg k1
          case measure => have := HK1.out; omega
          case rel => exact ⟨(wrap64 (x11_1 + 1)), (by rfl), H', ⟨by have := HK1.out; omega⟩, ⟨zB⟩⟩
       ·replace c10 := Bool.eq_false_iff.mpr c10
        subst c10
        have H1 : (some false) = some r := by rw [if_neg (show ¬ (false = true) by decide)] at H; exact H
        clear H
        have H := H1
        clear H1
        obtain rfl := Option.some.inj H
        have p331 : 0 ≤ (x11_1 : Int) := zD
        have q331 : x11_1 < (l2.length : Int) := zD
        obtain ⟨ad331, e331, hx331_0, hx331_1, hx331_2⟩ := at_T89 HR2.out x11_1 p331 q331
        cases e331
        replace hx331_0 := zH HB hx331_0
        replace hx331_1 := zH HB hx331_1
        replace hx331_2 := zH HB hx331_2
        replace p331 := eq_true p331
        replace q331 := eq_true q331
        try go_wp2_with (first | ((with_reducible refine gate_dst (N := 8) rfl ?_); refine zX 8 (#[.string (⟨#[]⟩ : ByteArray), .int .i64 0, .int .i64 0]) 89 ?_; intro gb332 hg w38 hbox hb; have BK332 := zA (hbox); have GW332 := zA (zG : w.heap.size ≤ gb332); have GE332 := zA (zG : w.heap.size ≤ gb332); replace HB := zA (below_step zB hb); clear hb hbox hg; obtain ⟨hcz39_0, hcz39_1, hcz39_2, hfz39_0, hfz39_1, hfz39_2⟩ := zC3 BK332))
        have n0_ : Aside0 ((((w38.setCell ⟨gb332, 0, none⟩ (.string ((rd_T89 l2 x11_1).f0))).setCell ⟨gb332, 1, none⟩ (.int .i64 ((rd_T89 l2 x11_1).f1.f0))).setCell ⟨gb332, 2, none⟩ (.int .i64 ((rd_T89 l2 x11_1).f1.f1))).heap[gb332]? = some (.cells #[.string ((rd_T89 l2 x11_1).f0), .int .i64 ((rd_T89 l2 x11_1).f1.f0), .int .i64 ((rd_T89 l2 x11_1).f1.f1)] 89 (0, 0))) := ⟨by refine blk_put (cs := #[.string ((rd_T89 l2 x11_1).f0), .int .i64 ((rd_T89 l2 x11_1).f1.f0), .int .i64 0]) ?_ 2 _ rfl; refine blk_put (cs := #[.string ((rd_T89 l2 x11_1).f0), .int .i64 0, .int .i64 0]) ?_ 1 _ rfl; refine blk_put (cs := #[.string (⟨#[]⟩ : ByteArray), .int .i64 0, .int .i64 0]) ?_ 0 _ rfl; exact BK332.out⟩
        have n1_ : Aside0 (Below w.heap.size w (((w38.setCell ⟨gb332, 0, none⟩ (.string ((rd_T89 l2 x11_1).f0))).setCell ⟨gb332, 1, none⟩ (.int .i64 ((rd_T89 l2 x11_1).f1.f0))).setCell ⟨gb332, 2, none⟩ (.int .i64 ((rd_T89 l2 x11_1).f1.f1)))) := ⟨zB⟩
        (try clear BK332)
        (try clear HB)
        generalize (((w38.setCell ⟨gb332, 0, none⟩ (.string ((rd_T89 l2 x11_1).f0))).setCell ⟨gb332, 1, none⟩ (.int .i64 ((rd_T89 l2 x11_1).f1.f0))).setCell ⟨gb332, 2, none⟩ (.int .i64 ((rd_T89 l2 x11_1).f1.f1))) = w40 at n0_ n1_ ⊢
        have BK332 := n0_
        have HB := n1_
        clear n0_ n1_
        replace BK332 := zA (blk_drew BK332.out)
        replace HB := zA (below_drew1 HB.out)
        refine start_ (n := 34) (S := fun w' => w'.cell? ⟨gb332, 0, none⟩ = some (.string ((rd_T89 l2 x11_1).f0)) ∧ w'.cell? ⟨gb332, 1, none⟩ = some (.int .i64 ((rd_T89 l2 x11_1).f1.f0)) ∧ w'.cell? ⟨gb332, 2, none⟩ = some (.int .i64 ((rd_T89 l2 x11_1).f1.f1))) (ds := []) #[false, false, false, false, false, false, false, false, false, false, false, false, false, false, false, false, false, false, false, false, false, false, false, false, false, false, false, false, false, false, false, false, false, false] (by kernel_rfl) rfl rfl ⟨(blk_cell BK332.out 0).trans rfl, (blk_cell BK332.out 1).trans rfl, (blk_cell BK332.out 2).trans rfl⟩ (fun hHeld => ?_); refine with_tabW impl_areTerms.tab4 impl_areTerms.bits4 (fun HT_ HW_ => ?_)
        generalize w40.drew = w41 at BK332 HB hHeld ⊢
        refine zP 0 (N := some 16) (h := ?_)
        refine zP 1 (N := some 17) (h := ?_)
        refine zP 3 (N := some 19) (h := ?_)
        refine zT 2 hHeld (N := some 18) (h := ?_)
        refine one_ (i := 4) (N := some 20) #[true, true, true, true, true, false, false, false, false, false, false, false, false, false, false, false, false, false, false, false, false, false, false, false, false, false, false, false, false, false, false, false, false, false] rfl rfl (one_of HT_.out (by kernel_rfl)) (by decide) (fun K hK => ?_)
        refine goes_ Try.func58 (by kernel_rfl) rfl #[.int .i64 a0, .string ((rd_T89 l2 x11_1).f0), .int .i64 a1] (by rfl) rfl rfl zM ?_
        with_reducible refine (impl_isWord.calls k1 a0 ((rd_T89 l2 x11_1).f0) a1 true _ A7.out).mono ?_
        rintro e w' ⟨rfl, ⟨nd, rfl⟩⟩
        refine ⟨_, rfl, ?_⟩
        refine hK.out _ _ ⟨(blk_cell BK332.out 0).trans rfl, (blk_cell BK332.out 1).trans rfl, (blk_cell BK332.out 2).trans rfl⟩ (fun hHeld => ?_)
        clear hK K
        refine norm_ (a' := ?_) ?_ ?_
        rotate_left
        ·show Act.put _ (some 20) _ = _
         simp only [Act.put, List.setIfInBounds_toArray, List.set, i64_w, i32_w]
         rfl
        refine zP 5 (N := some 21) (h := ?_)
        refine zP 6 (N := some 22) (h := ?_)
        refine zP 7 (N := some 23) (h := ?_)
        refine zT 8 hHeld (N := some 24) (h := ?_)
        refine one_ (i := 9) (N := some 25) #[true, true, true, true, true, true, true, true, true, true, false, false, false, false, false, false, false, false, false, false, false, false, false, false, false, false, false, false, false, false, false, false, false, false] rfl rfl (one_of HT_.out (by kernel_rfl)) (by decide) (fun K hK => ?_)
        refine goes_ Try.func154 (by kernel_rfl) rfl #[.agg #[.int .i64 ((rd_T89 l2 x11_1).f1.f0), .int .i64 ((rd_T89 l2 x11_1).f1.f1)]] (by rfl) rfl rfl zM ?_
        with_reducible refine (impl_IsFraction.calls k1 ((rd_T89 l2 x11_1).f1.f0) ((rd_T89 l2 x11_1).f1.f1) false _ A9.out).mono ?_
        rintro e w42 ⟨rfl, hb⟩
        refine ⟨_, rfl, ?_⟩
        replace BK332 := zA (zW BK332 hb)
        replace HB := zA (below_step zB hb)
        (try clear hb)
        (try clear hb2)
        (try clear hk)
        (try clear hi)
        refine hK.out _ _ ⟨(blk_cell BK332.out 0).trans rfl, (blk_cell BK332.out 1).trans rfl, (blk_cell BK332.out 2).trans rfl⟩ (fun hHeld => ?_)
        clear hK K
        refine norm_ (a' := ?_) ?_ ?_
        rotate_left
        ·show Act.put _ (some 25) _ = _
         simp only [Act.put, List.setIfInBounds_toArray, List.set, i64_w, i32_w]
         rfl
        refine zP 10 (N := some 26) (h := ?_)
        refine zP 11 (N := some 27) (h := ?_)
        refine zP 12 (N := some 28) (h := ?_)
        refine pure_ (i := 13) (N := some 29) (v := undef) (a' := ?_) #[true, true, true, true, true, true, true, true, true, true, true, true, true, true, false, false, false, false, false, false, false, false, false, false, false, false, false, false, false, false, false, false, false, false] rfl rfl (any_of HT_.out (by kernel_rfl)) (fun _ _ _ h => h) (Or.inr ⟨by rfl, rfl⟩) ?_ ?_
        rotate_left
        ·simp only [Act.put, List.setIfInBounds_toArray, List.set, i64_w, i32_w]
         rfl
        refine pure_ (i := 14) (N := some 30) (v := undef) (a' := ?_) #[true, true, true, true, true, true, true, true, true, true, true, true, true, true, true, false, false, false, false, false, false, false, false, false, false, false, false, false, false, false, false, false, false, false] rfl rfl (any_of HT_.out (by kernel_rfl)) (fun _ _ _ h => h) (Or.inr ⟨by rfl, rfl⟩) ?_ ?_
        rotate_left
        ·simp only [Act.put, List.setIfInBounds_toArray, List.set, i64_w, i32_w]
         rfl
        refine pure_ (i := 15) (N := some 31) (v := undef) (a' := ?_) #[true, true, true, true, true, true, true, true, true, true, true, true, true, true, true, true, false, false, false, false, false, false, false, false, false, false, false, false, false, false, false, false, false, false] rfl rfl (any_of HT_.out (by kernel_rfl)) (fun _ _ _ h => h) (Or.inr ⟨by rfl, rfl⟩) ?_ ?_
        rotate_left
        ·simp only [Act.put, List.setIfInBounds_toArray, List.set, i64_w, i32_w]
         rfl
        refine pure_ (i := 16) (N := some 32) (v := undef) (a' := ?_) #[true, true, true, true, true, true, true, true, true, true, true, true, true, true, true, true, true, false, false, false, false, false, false, false, false, false, false, false, false, false, false, false, false, false] rfl rfl (any_of HT_.out (by kernel_rfl)) (fun _ _ _ h => h) (Or.inr ⟨by rfl, rfl⟩) ?_ ?_
        rotate_left
        ·simp only [Act.put, List.setIfInBounds_toArray, List.set, i64_w, i32_w]
         rfl
        refine zP 17 (N := some 33) (h := ?_)
        refine zP 18 (N := some 34) (h := ?_)
        refine pure_ (i := 19) (N := some 35) (v := undef) (a' := ?_) #[true, true, true, true, true, true, true, true, true, true, true, true, true, true, true, true, true, true, true, true, false, false, false, false, false, false, false, false, false, false, false, false, false, false] rfl rfl (any_of HT_.out (by kernel_rfl)) (fun _ _ _ h => h) (Or.inr ⟨by rfl, rfl⟩) ?_ ?_
        rotate_left
        ·simp only [Act.put, List.setIfInBounds_toArray, List.set, i64_w, i32_w]
         rfl
        refine pure_ (i := 20) (N := some 36) (v := undef) (a' := ?_) #[true, true, true, true, true, true, true, true, true, true, true, true, true, true, true, true, true, true, true, true, true, false, false, false, false, false, false, false, false, false, false, false, false, false] rfl rfl (any_of HT_.out (by kernel_rfl)) (fun _ _ _ h => h) (Or.inr ⟨by rfl, rfl⟩) ?_ ?_
        rotate_left
        ·simp only [Act.put, List.setIfInBounds_toArray, List.set, i64_w, i32_w]
         rfl
        refine pure_ (i := 21) (N := some 37) (v := undef) (a' := ?_) #[true, true, true, true, true, true, true, true, true, true, true, true, true, true, true, true, true, true, true, true, true, true, false, false, false, false, false, false, false, false, false, false, false, false] rfl rfl (any_of HT_.out (by kernel_rfl)) (fun _ _ _ h => h) (Or.inr ⟨by rfl, rfl⟩) ?_ ?_
        rotate_left
        ·simp only [Act.put, List.setIfInBounds_toArray, List.set, i64_w, i32_w]
         rfl
        refine pure_ (i := 22) (N := some 38) (v := undef) (a' := ?_) #[true, true, true, true, true, true, true, true, true, true, true, true, true, true, true, true, true, true, true, true, true, true, true, false, false, false, false, false, false, false, false, false, false, false] rfl rfl (any_of HT_.out (by kernel_rfl)) (fun _ _ _ h => h) (Or.inr ⟨by rfl, rfl⟩) ?_ ?_
        rotate_left
        ·simp only [Act.put, List.setIfInBounds_toArray, List.set, i64_w, i32_w]
         rfl
        refine pure_ (i := 23) (N := some 39) (v := undef) (a' := ?_) #[true, true, true, true, true, true, true, true, true, true, true, true, true, true, true, true, true, true, true, true, true, true, true, true, false, false, false, false, false, false, false, false, false, false] rfl rfl (any_of HT_.out (by kernel_rfl)) (fun _ _ _ h => h) (Or.inr ⟨by rfl, rfl⟩) ?_ ?_
        rotate_left
        ·simp only [Act.put, List.setIfInBounds_toArray, List.set, i64_w, i32_w]
         rfl
        refine pure_ (i := 24) (N := some 40) (v := undef) (a' := ?_) #[true, true, true, true, true, true, true, true, true, true, true, true, true, true, true, true, true, true, true, true, true, true, true, true, true, false, false, false, false, false, false, false, false, false] rfl rfl (any_of HT_.out (by kernel_rfl)) (fun _ _ _ h => h) (Or.inr ⟨by rfl, rfl⟩) ?_ ?_
        rotate_left
        ·simp only [Act.put, List.setIfInBounds_toArray, List.set, i64_w, i32_w]
         rfl
        refine pure_ (i := 25) (N := some 41) (v := undef) (a' := ?_) #[true, true, true, true, true, true, true, true, true, true, true, true, true, true, true, true, true, true, true, true, true, true, true, true, true, true, false, false, false, false, false, false, false, false] rfl rfl (any_of HT_.out (by kernel_rfl)) (fun _ _ _ h => h) (Or.inr ⟨by rfl, rfl⟩) ?_ ?_
        rotate_left
        ·simp only [Act.put, List.setIfInBounds_toArray, List.set, i64_w, i32_w]
         rfl
        refine pure_ (i := 26) (N := some 42) (v := undef) (a' := ?_) #[true, true, true, true, true, true, true, true, true, true, true, true, true, true, true, true, true, true, true, true, true, true, true, true, true, true, true, false, false, false, false, false, false, false] rfl rfl (any_of HT_.out (by kernel_rfl)) (fun _ _ _ h => h) (Or.inr ⟨by rfl, rfl⟩) ?_ ?_
        rotate_left
        ·simp only [Act.put, List.setIfInBounds_toArray, List.set, i64_w, i32_w]
         rfl
        refine pure_ (i := 27) (N := some 43) (v := undef) (a' := ?_) #[true, true, true, true, true, true, true, true, true, true, true, true, true, true, true, true, true, true, true, true, true, true, true, true, true, true, true, true, false, false, false, false, false, false] rfl rfl (any_of HT_.out (by kernel_rfl)) (fun _ _ _ h => h) (Or.inr ⟨by rfl, rfl⟩) ?_ ?_
        rotate_left
        ·simp only [Act.put, List.setIfInBounds_toArray, List.set, i64_w, i32_w]
         rfl
        refine pure_ (i := 28) (N := some 44) (v := undef) (a' := ?_) #[true, true, true, true, true, true, true, true, true, true, true, true, true, true, true, true, true, true, true, true, true, true, true, true, true, true, true, true, true, false, false, false, false, false] rfl rfl (any_of HT_.out (by kernel_rfl)) (fun _ _ _ h => h) (Or.inr ⟨by rfl, rfl⟩) ?_ ?_
        rotate_left
        ·simp only [Act.put, List.setIfInBounds_toArray, List.set, i64_w, i32_w]
         rfl
        refine pure_ (i := 29) (N := some 45) (v := undef) (a' := ?_) #[true, true, true, true, true, true, true, true, true, true, true, true, true, true, true, true, true, true, true, true, true, true, true, true, true, true, true, true, true, true, false, false, false, false] rfl rfl (any_of HT_.out (by kernel_rfl)) (fun _ _ _ h => h) (Or.inr ⟨by rfl, rfl⟩) ?_ ?_
        rotate_left
        ·simp only [Act.put, List.setIfInBounds_toArray, List.set, i64_w, i32_w]
         rfl
        refine pure_ (i := 30) (N := some 46) (v := undef) (a' := ?_) #[true, true, true, true, true, true, true, true, true, true, true, true, true, true, true, true, true, true, true, true, true, true, true, true, true, true, true, true, true, true, true, false, false, false] rfl rfl (any_of HT_.out (by kernel_rfl)) (fun _ _ _ h => h) (Or.inr ⟨by rfl, rfl⟩) ?_ ?_
        rotate_left
        ·simp only [Act.put, List.setIfInBounds_toArray, List.set, i64_w, i32_w]
         rfl
        refine pure_ (i := 31) (N := some 47) (v := undef) (a' := ?_) #[true, true, true, true, true, true, true, true, true, true, true, true, true, true, true, true, true, true, true, true, true, true, true, true, true, true, true, true, true, true, true, true, false, false] rfl rfl (any_of HT_.out (by kernel_rfl)) (fun _ _ _ h => h) (Or.inr ⟨by rfl, rfl⟩) ?_ ?_
        rotate_left
        ·simp only [Act.put, List.setIfInBounds_toArray, List.set, i64_w, i32_w]
         rfl
        refine pure_ (i := 32) (N := some 48) (v := undef) (a' := ?_) #[true, true, true, true, true, true, true, true, true, true, true, true, true, true, true, true, true, true, true, true, true, true, true, true, true, true, true, true, true, true, true, true, true, false] rfl rfl (any_of HT_.out (by kernel_rfl)) (fun _ _ _ h => h) (Or.inr ⟨by rfl, rfl⟩) ?_ ?_
        rotate_left
        ·simp only [Act.put, List.setIfInBounds_toArray, List.set, i64_w, i32_w]
         rfl
        refine zP 33 (N := some 49) (h := ?_)
        refine done_ (done_of HT_.out (by kernel_rfl)) ?_
        try go_wp2
        go_ret
        exact ⟨by rfl, zB⟩
      ·replace c8 := Bool.eq_false_iff.mpr c8
       subst c8
       have H1 : (some false) = some r := by rw [if_neg (show ¬ (false = true) by decide)] at H; exact H
       clear H
       have H := H1
       clear H1
       obtain rfl := Option.some.inj H
       have p331 : 0 ≤ (x11_1 : Int) := zD
       have q331 : x11_1 < (l2.length : Int) := zD
       obtain ⟨ad331, e331, hx331_0, hx331_1, hx331_2⟩ := at_T89 HR2.out x11_1 p331 q331
       cases e331
       replace hx331_0 := zH HB hx331_0
       replace hx331_1 := zH HB hx331_1
       replace hx331_2 := zH HB hx331_2
       replace p331 := eq_true p331
       replace q331 := eq_true q331
       try go_wp2_with (first | ((with_reducible refine gate_dst (N := 8) rfl ?_); refine zX 8 (#[.string (⟨#[]⟩ : ByteArray), .int .i64 0, .int .i64 0]) 89 ?_; intro gb332 hg w43 hbox hb; have BK332 := zA (hbox); have GW332 := zA (zG : w.heap.size ≤ gb332); have GE332 := zA (zG : w.heap.size ≤ gb332); replace HB := zA (below_step zB hb); clear hb hbox hg; obtain ⟨hcz44_0, hcz44_1, hcz44_2, hfz44_0, hfz44_1, hfz44_2⟩ := zC3 BK332))
       have n0_ : Aside0 ((((w43.setCell ⟨gb332, 0, none⟩ (.string ((rd_T89 l2 x11_1).f0))).setCell ⟨gb332, 1, none⟩ (.int .i64 ((rd_T89 l2 x11_1).f1.f0))).setCell ⟨gb332, 2, none⟩ (.int .i64 ((rd_T89 l2 x11_1).f1.f1))).heap[gb332]? = some (.cells #[.string ((rd_T89 l2 x11_1).f0), .int .i64 ((rd_T89 l2 x11_1).f1.f0), .int .i64 ((rd_T89 l2 x11_1).f1.f1)] 89 (0, 0))) := ⟨by refine blk_put (cs := #[.string ((rd_T89 l2 x11_1).f0), .int .i64 ((rd_T89 l2 x11_1).f1.f0), .int .i64 0]) ?_ 2 _ rfl; refine blk_put (cs := #[.string ((rd_T89 l2 x11_1).f0), .int .i64 0, .int .i64 0]) ?_ 1 _ rfl; refine blk_put (cs := #[.string (⟨#[]⟩ : ByteArray), .int .i64 0, .int .i64 0]) ?_ 0 _ rfl; exact BK332.out⟩
       have n1_ : Aside0 (Below w.heap.size w (((w43.setCell ⟨gb332, 0, none⟩ (.string ((rd_T89 l2 x11_1).f0))).setCell ⟨gb332, 1, none⟩ (.int .i64 ((rd_T89 l2 x11_1).f1.f0))).setCell ⟨gb332, 2, none⟩ (.int .i64 ((rd_T89 l2 x11_1).f1.f1)))) := ⟨zB⟩
       (try clear BK332)
       (try clear HB)
       generalize (((w43.setCell ⟨gb332, 0, none⟩ (.string ((rd_T89 l2 x11_1).f0))).setCell ⟨gb332, 1, none⟩ (.int .i64 ((rd_T89 l2 x11_1).f1.f0))).setCell ⟨gb332, 2, none⟩ (.int .i64 ((rd_T89 l2 x11_1).f1.f1))) = w45 at n0_ n1_ ⊢
       have BK332 := n0_
       have HB := n1_
       clear n0_ n1_
       replace BK332 := zA (blk_drew BK332.out)
       replace HB := zA (below_drew1 HB.out)
       refine start_ (n := 34) (S := fun w' => w'.cell? ⟨gb332, 0, none⟩ = some (.string ((rd_T89 l2 x11_1).f0)) ∧ w'.cell? ⟨gb332, 1, none⟩ = some (.int .i64 ((rd_T89 l2 x11_1).f1.f0)) ∧ w'.cell? ⟨gb332, 2, none⟩ = some (.int .i64 ((rd_T89 l2 x11_1).f1.f1))) (ds := []) #[false, false, false, false, false, false, false, false, false, false, false, false, false, false, false, false, false, false, false, false, false, false, false, false, false, false, false, false, false, false, false, false, false, false] (by kernel_rfl) rfl rfl ⟨(blk_cell BK332.out 0).trans rfl, (blk_cell BK332.out 1).trans rfl, (blk_cell BK332.out 2).trans rfl⟩ (fun hHeld => ?_); refine with_tabW impl_areTerms.tab4 impl_areTerms.bits4 (fun HT_ HW_ => ?_)
       generalize w45.drew = w46 at BK332 HB hHeld ⊢
       refine zP 0 (N := some 16) (h := ?_)
       refine zP 1 (N := some 17) (h := ?_)
       refine zP 3 (N := some 19) (h := ?_)
       refine zT 2 hHeld (N := some 18) (h := ?_)
       refine one_ (i := 4) (N := some 20) #[true, true, true, true, true, false, false, false, false, false, false, false, false, false, false, false, false, false, false, false, false, false, false, false, false, false, false, false, false, false, false, false, false, false] rfl rfl (one_of HT_.out (by kernel_rfl)) (by decide) (fun K hK => ?_)
       refine goes_ Try.func58 (by kernel_rfl) rfl #[.int .i64 a0, .string ((rd_T89 l2 x11_1).f0), .int .i64 a1] (by rfl) rfl rfl zM ?_
       with_reducible refine (impl_isWord.calls k1 a0 ((rd_T89 l2 x11_1).f0) a1 false _ A7.out).mono ?_
       rintro e w' ⟨rfl, ⟨nd, rfl⟩⟩
       refine ⟨_, rfl, ?_⟩
       refine hK.out _ _ ⟨(blk_cell BK332.out 0).trans rfl, (blk_cell BK332.out 1).trans rfl, (blk_cell BK332.out 2).trans rfl⟩ (fun hHeld => ?_)
       clear hK K
       refine norm_ (a' := ?_) ?_ ?_
       rotate_left
       ·show Act.put _ (some 20) _ = _
        simp only [Act.put, List.setIfInBounds_toArray, List.set, i64_w, i32_w]
        rfl
       refine zP 5 (N := some 21) (h := ?_)
       refine zP 6 (N := some 22) (h := ?_)
       refine pure_ (i := 7) (N := some 23) (v := undef) (a' := ?_) #[true, true, true, true, true, true, true, true, false, false, false, false, false, false, false, false, false, false, false, false, false, false, false, false, false, false, false, false, false, false, false, false, false, false] rfl rfl (any_of HT_.out (by kernel_rfl)) (fun _ _ _ h => h) (Or.inr ⟨by rfl, rfl⟩) ?_ ?_
       rotate_left
       ·simp only [Act.put, List.setIfInBounds_toArray, List.set, i64_w, i32_w]
        rfl
       refine pure_ (i := 8) (N := some 24) (v := undef) (a' := ?_) #[true, true, true, true, true, true, true, true, true, false, false, false, false, false, false, false, false, false, false, false, false, false, false, false, false, false, false, false, false, false, false, false, false, false] rfl rfl (any_of HT_.out (by kernel_rfl)) (fun _ _ _ h => h) (Or.inr ⟨by rfl, rfl⟩) ?_ ?_
       rotate_left
       ·simp only [Act.put, List.setIfInBounds_toArray, List.set, i64_w, i32_w]
        rfl
       refine pure_ (i := 9) (N := some 25) (v := undef) (a' := ?_) #[true, true, true, true, true, true, true, true, true, true, false, false, false, false, false, false, false, false, false, false, false, false, false, false, false, false, false, false, false, false, false, false, false, false] rfl rfl (any_of HT_.out (by kernel_rfl)) (fun _ _ _ h => h) (Or.inr ⟨by rfl, rfl⟩) ?_ ?_
       rotate_left
       ·simp only [Act.put, List.setIfInBounds_toArray, List.set, i64_w, i32_w]
        rfl
       refine pure_ (i := 10) (N := some 26) (v := undef) (a' := ?_) #[true, true, true, true, true, true, true, true, true, true, true, false, false, false, false, false, false, false, false, false, false, false, false, false, false, false, false, false, false, false, false, false, false, false] rfl rfl (any_of HT_.out (by kernel_rfl)) (fun _ _ _ h => h) (Or.inr ⟨by rfl, rfl⟩) ?_ ?_
       rotate_left
       ·simp only [Act.put, List.setIfInBounds_toArray, List.set, i64_w, i32_w]
        rfl
       refine zP 11 (N := some 27) (h := ?_)
       refine zP 12 (N := some 28) (h := ?_)
       refine pure_ (i := 13) (N := some 29) (v := undef) (a' := ?_) #[true, true, true, true, true, true, true, true, true, true, true, true, true, true, false, false, false, false, false, false, false, false, false, false, false, false, false, false, false, false, false, false, false, false] rfl rfl (any_of HT_.out (by kernel_rfl)) (fun _ _ _ h => h) (Or.inr ⟨by rfl, rfl⟩) ?_ ?_
       rotate_left
       ·simp only [Act.put, List.setIfInBounds_toArray, List.set, i64_w, i32_w]
        rfl
       refine pure_ (i := 14) (N := some 30) (v := undef) (a' := ?_) #[true, true, true, true, true, true, true, true, true, true, true, true, true, true, true, false, false, false, false, false, false, false, false, false, false, false, false, false, false, false, false, false, false, false] rfl rfl (any_of HT_.out (by kernel_rfl)) (fun _ _ _ h => h) (Or.inr ⟨by rfl, rfl⟩) ?_ ?_
       rotate_left
       ·simp only [Act.put, List.setIfInBounds_toArray, List.set, i64_w, i32_w]
        rfl
       refine pure_ (i := 15) (N := some 31) (v := undef) (a' := ?_) #[true, true, true, true, true, true, true, true, true, true, true, true, true, true, true, true, false, false, false, false, false, false, false, false, false, false, false, false, false, false, false, false, false, false] rfl rfl (any_of HT_.out (by kernel_rfl)) (fun _ _ _ h => h) (Or.inr ⟨by rfl, rfl⟩) ?_ ?_
       rotate_left
       ·simp only [Act.put, List.setIfInBounds_toArray, List.set, i64_w, i32_w]
        rfl
       refine pure_ (i := 16) (N := some 32) (v := undef) (a' := ?_) #[true, true, true, true, true, true, true, true, true, true, true, true, true, true, true, true, true, false, false, false, false, false, false, false, false, false, false, false, false, false, false, false, false, false] rfl rfl (any_of HT_.out (by kernel_rfl)) (fun _ _ _ h => h) (Or.inr ⟨by rfl, rfl⟩) ?_ ?_
       rotate_left
       ·simp only [Act.put, List.setIfInBounds_toArray, List.set, i64_w, i32_w]
        rfl
       refine zP 17 (N := some 33) (h := ?_)
       refine zP 18 (N := some 34) (h := ?_)
       refine pure_ (i := 19) (N := some 35) (v := undef) (a' := ?_) #[true, true, true, true, true, true, true, true, true, true, true, true, true, true, true, true, true, true, true, true, false, false, false, false, false, false, false, false, false, false, false, false, false, false] rfl rfl (any_of HT_.out (by kernel_rfl)) (fun _ _ _ h => h) (Or.inr ⟨by rfl, rfl⟩) ?_ ?_
       rotate_left
       ·simp only [Act.put, List.setIfInBounds_toArray, List.set, i64_w, i32_w]
        rfl
       refine pure_ (i := 20) (N := some 36) (v := undef) (a' := ?_) #[true, true, true, true, true, true, true, true, true, true, true, true, true, true, true, true, true, true, true, true, true, false, false, false, false, false, false, false, false, false, false, false, false, false] rfl rfl (any_of HT_.out (by kernel_rfl)) (fun _ _ _ h => h) (Or.inr ⟨by rfl, rfl⟩) ?_ ?_
       rotate_left
       ·simp only [Act.put, List.setIfInBounds_toArray, List.set, i64_w, i32_w]
        rfl
       refine pure_ (i := 21) (N := some 37) (v := undef) (a' := ?_) #[true, true, true, true, true, true, true, true, true, true, true, true, true, true, true, true, true, true, true, true, true, true, false, false, false, false, false, false, false, false, false, false, false, false] rfl rfl (any_of HT_.out (by kernel_rfl)) (fun _ _ _ h => h) (Or.inr ⟨by rfl, rfl⟩) ?_ ?_
       rotate_left
       ·simp only [Act.put, List.setIfInBounds_toArray, List.set, i64_w, i32_w]
        rfl
       refine pure_ (i := 22) (N := some 38) (v := undef) (a' := ?_) #[true, true, true, true, true, true, true, true, true, true, true, true, true, true, true, true, true, true, true, true, true, true, true, false, false, false, false, false, false, false, false, false, false, false] rfl rfl (any_of HT_.out (by kernel_rfl)) (fun _ _ _ h => h) (Or.inr ⟨by rfl, rfl⟩) ?_ ?_
       rotate_left
       ·simp only [Act.put, List.setIfInBounds_toArray, List.set, i64_w, i32_w]
        rfl
       refine pure_ (i := 23) (N := some 39) (v := undef) (a' := ?_) #[true, true, true, true, true, true, true, true, true, true, true, true, true, true, true, true, true, true, true, true, true, true, true, true, false, false, false, false, false, false, false, false, false, false] rfl rfl (any_of HT_.out (by kernel_rfl)) (fun _ _ _ h => h) (Or.inr ⟨by rfl, rfl⟩) ?_ ?_
       rotate_left
       ·simp only [Act.put, List.setIfInBounds_toArray, List.set, i64_w, i32_w]
        rfl
       refine pure_ (i := 24) (N := some 40) (v := undef) (a' := ?_) #[true, true, true, true, true, true, true, true, true, true, true, true, true, true, true, true, true, true, true, true, true, true, true, true, true, false, false, false, false, false, false, false, false, false] rfl rfl (any_of HT_.out (by kernel_rfl)) (fun _ _ _ h => h) (Or.inr ⟨by rfl, rfl⟩) ?_ ?_
       rotate_left
       ·simp only [Act.put, List.setIfInBounds_toArray, List.set, i64_w, i32_w]
        rfl
       refine pure_ (i := 25) (N := some 41) (v := undef) (a' := ?_) #[true, true, true, true, true, true, true, true, true, true, true, true, true, true, true, true, true, true, true, true, true, true, true, true, true, true, false, false, false, false, false, false, false, false] rfl rfl (any_of HT_.out (by kernel_rfl)) (fun _ _ _ h => h) (Or.inr ⟨by rfl, rfl⟩) ?_ ?_
       rotate_left
       ·simp only [Act.put, List.setIfInBounds_toArray, List.set, i64_w, i32_w]
        rfl
       refine pure_ (i := 26) (N := some 42) (v := undef) (a' := ?_) #[true, true, true, true, true, true, true, true, true, true, true, true, true, true, true, true, true, true, true, true, true, true, true, true, true, true, true, false, false, false, false, false, false, false] rfl rfl (any_of HT_.out (by kernel_rfl)) (fun _ _ _ h => h) (Or.inr ⟨by rfl, rfl⟩) ?_ ?_
       rotate_left
       ·simp only [Act.put, List.setIfInBounds_toArray, List.set, i64_w, i32_w]
        rfl
       refine pure_ (i := 27) (N := some 43) (v := undef) (a' := ?_) #[true, true, true, true, true, true, true, true, true, true, true, true, true, true, true, true, true, true, true, true, true, true, true, true, true, true, true, true, false, false, false, false, false, false] rfl rfl (any_of HT_.out (by kernel_rfl)) (fun _ _ _ h => h) (Or.inr ⟨by rfl, rfl⟩) ?_ ?_
       rotate_left
       ·simp only [Act.put, List.setIfInBounds_toArray, List.set, i64_w, i32_w]
        rfl
       refine pure_ (i := 28) (N := some 44) (v := undef) (a' := ?_) #[true, true, true, true, true, true, true, true, true, true, true, true, true, true, true, true, true, true, true, true, true, true, true, true, true, true, true, true, true, false, false, false, false, false] rfl rfl (any_of HT_.out (by kernel_rfl)) (fun _ _ _ h => h) (Or.inr ⟨by rfl, rfl⟩) ?_ ?_
       rotate_left
       ·simp only [Act.put, List.setIfInBounds_toArray, List.set, i64_w, i32_w]
        rfl
       refine pure_ (i := 29) (N := some 45) (v := undef) (a' := ?_) #[true, true, true, true, true, true, true, true, true, true, true, true, true, true, true, true, true, true, true, true, true, true, true, true, true, true, true, true, true, true, false, false, false, false] rfl rfl (any_of HT_.out (by kernel_rfl)) (fun _ _ _ h => h) (Or.inr ⟨by rfl, rfl⟩) ?_ ?_
       rotate_left
       ·simp only [Act.put, List.setIfInBounds_toArray, List.set, i64_w, i32_w]
        rfl
       refine pure_ (i := 30) (N := some 46) (v := undef) (a' := ?_) #[true, true, true, true, true, true, true, true, true, true, true, true, true, true, true, true, true, true, true, true, true, true, true, true, true, true, true, true, true, true, true, false, false, false] rfl rfl (any_of HT_.out (by kernel_rfl)) (fun _ _ _ h => h) (Or.inr ⟨by rfl, rfl⟩) ?_ ?_
       rotate_left
       ·simp only [Act.put, List.setIfInBounds_toArray, List.set, i64_w, i32_w]
        rfl
       refine pure_ (i := 31) (N := some 47) (v := undef) (a' := ?_) #[true, true, true, true, true, true, true, true, true, true, true, true, true, true, true, true, true, true, true, true, true, true, true, true, true, true, true, true, true, true, true, true, false, false] rfl rfl (any_of HT_.out (by kernel_rfl)) (fun _ _ _ h => h) (Or.inr ⟨by rfl, rfl⟩) ?_ ?_
       rotate_left
       ·simp only [Act.put, List.setIfInBounds_toArray, List.set, i64_w, i32_w]
        rfl
       refine pure_ (i := 32) (N := some 48) (v := undef) (a' := ?_) #[true, true, true, true, true, true, true, true, true, true, true, true, true, true, true, true, true, true, true, true, true, true, true, true, true, true, true, true, true, true, true, true, true, false] rfl rfl (any_of HT_.out (by kernel_rfl)) (fun _ _ _ h => h) (Or.inr ⟨by rfl, rfl⟩) ?_ ?_
       rotate_left
       ·simp only [Act.put, List.setIfInBounds_toArray, List.set, i64_w, i32_w]
        rfl
       refine zP 33 (N := some 49) (h := ?_)
       refine done_ (done_of HT_.out (by kernel_rfl)) ?_
       try go_wp2
       go_ret
       exact ⟨by rfl, zB⟩
     ·rw [if_neg c6] at H
      exact absurd H (by simp)
    ·rw [if_neg c5] at H
     exact absurd H (by simp)
   ·rw [if_neg c4] at H
    have c4b0 : decide (x11_1 < (l2.length : Int)) = false := decide_eq_false c4
    clear c4
    obtain rfl := Option.some.inj H
    go_wp2
    go_ret
    exact ⟨by rfl, zB⟩

end Go.Proofs.Ytcklefgkbddlhaa.P
