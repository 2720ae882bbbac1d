/- What a call of each Go function named below comes to is what the plain Lean function beside it says. Made by a program of this session out of the print of the translation; Lean checks it. -/
import Derived.Test.YtcklefgkbddlhaaPx0
import Derived.Test.YtcklefgkbddlhaaPx3
import Derived.Test.YtcklefgkbddlhaaPx6
namespace Go.Proofs.Ytcklefgkbddlhaa.P
open Go.RowKit Go.Proofs.YtcklefgkbddlhaaW.PrintWords Go.Proofs.YtcklefgkbddlhaaW.PrintLast Go.Proofs.YtcklefgkbddlhaaW.PrintMore
attribute [local go_sem] max2_int min2_int max_two min_two max_three min_three max_four min_four   -- for this text's walks alone
set_option linter.unusedVariables false
set_option linter.unusedSimpArgs false


/-! ### spec_l01Put: function 93 -/
mutual
def spec_l01Put.j1 : Nat → List (S89) → ByteArray → Int → Int → Int → Option ((List (S89)) × Bool)
 | 0, _, _, _, _, _ => none
 | k + 1, x0, x1, x8, x198000, x198001 => (some (([] : List (S89)) : List (S89))).bind fun y200 => (if 0 ≤ x8 then (if x8 ≤ (x0.length : Int) then ((some (x0.take (x8 : Int).toNat : List (S89))).bind fun y203 => (if y200.length + y203.length < 4398046511104 then ((some (y200 ++ y203 : List (S89))).bind fun y207 => (if x8 < (x0.length : Int) then (spec_l01Put.j2 k x0 x1 x8 y207 (((rd_T89 x0 x8).f0).toList == x1.toList) x198000 x198001) else (spec_l01Put.j2 k x0 x1 x8 y207 false x198000 x198001))) else (none))) else (none)) else (none))
def spec_l01Put.j2 : Nat → List (S89) → ByteArray → Int → List (S89) → Bool → Int → Int → Option ((List (S89)) × Bool)
 | 0, _, _, _, _, _, _, _ => none
 | k + 1, x0, x1, x8, x9, x44, x198000, x198001 => if x44 = true then (if 0 ≤ x8 then (if x8 < (x0.length : Int) then ((spec_l01Plus.f k ((rd_T89 x0 x8).f1.f0) ((rd_T89 x0 x8).f1.f1) x198000 x198001).bind fun bt212 => (if bt212.2.2 = true then ((spec_l01Zero.f bt212.1 bt212.2.1).bind fun t216 => (if t216 = true then (if 0 ≤ (wrap64 (x8 + 1)) then (if (wrap64 (x8 + 1)) ≤ (x0.length : Int) then ((some (x0.drop ((wrap64 (x8 + 1)) : Int).toNat : List (S89))).bind fun y217 => (if x9.length + y217.length < 4398046511104 then (some ((x9 ++ y217), true)) else (none))) else (none)) else (none)) else (if x9.length < 4398046511104 then ((some (x9 ++ [(⟨x1, (⟨bt212.1, bt212.2.1⟩ : S27)⟩ : S89)] : List (S89))).bind fun y224 => (if 0 ≤ (wrap64 (x8 + 1)) then (if (wrap64 (x8 + 1)) ≤ (x0.length : Int) then ((some (x0.drop ((wrap64 (x8 + 1)) : Int).toNat : List (S89))).bind fun y227 => (if y224.length + y227.length < 4398046511104 then (some ((y224 ++ y227), true)) else (none))) else (none)) else (none))) else (none)))) else (some (([] : List (S89)), false)))) else (none)) else (none)) else ((spec_l01Zero.f x198000 x198001).bind fun t234 => (if t234 = true then (if 0 ≤ x8 then (if x8 ≤ (x0.length : Int) then ((some (x0.drop (x8 : Int).toNat : List (S89))).bind fun y235 => (if x9.length + y235.length < 4398046511104 then (some ((x9 ++ y235), true)) else (none))) else (none)) else (none)) else (if x9.length < 4398046511104 then ((some (x9 ++ [(⟨x1, (⟨x198000, x198001⟩ : S27)⟩ : S89)] : List (S89))).bind fun y242 => (if 0 ≤ x8 then (if x8 ≤ (x0.length : Int) then ((some (x0.drop (x8 : Int).toNat : List (S89))).bind fun y245 => (if y242.length + y245.length < 4398046511104 then (some ((y242 ++ y245), true)) else (none))) else (none)) else (none))) else (none))))
def spec_l01Put.l0 : Nat → List (S89) → ByteArray → Int → Int → Int → Option ((List (S89)) × Bool)
 | 0, _, _, _, _, _ => none
 | k + 1, x0, x1, x8, x198000, x198001 => if x8 < (x0.length : Int) then (if 0 ≤ x8 then ((spec_l01Before.f ((rd_T89 x0 x8).f0) x1).bind fun t199 => (if t199 = true then (spec_l01Put.l0 k x0 x1 (wrap64 (x8 + 1)) x198000 x198001) else (spec_l01Put.j1 k x0 x1 x8 x198000 x198001))) else (none)) else (spec_l01Put.j1 k x0 x1 x8 x198000 x198001)
end
def spec_l01Put.f (k : Nat) (l0 : List (S89)) (a1 : ByteArray) (a2_0 : Int) (a2_1 : Int) : Option ((List (S89)) × Bool) := spec_l01Put.l0 k l0 a1 0 a2_0 a2_1
def spec_l01Put.T6 : Bool × List (List Nat × List Nat) := (true, [([], []), ([], []), ([0, 1], [0, 1]), ([2], [2]), ([3], [3]), ([], []), ([4, 5], [4, 5]), ([6], [6]), ([7], [7]), ([7], [7]), ([], []), ([10, 8, 6, 0, 1, 2, 3, 4, 5, 6, 7, 8, 10], [8, 10]), ([9, 11, 0, 1, 2, 3, 4, 5, 6, 7, 8, 9, 10, 11], [9])])
def spec_l01Put.B6 : List Nat := [0, 0, 3, 7, 15, 0, 63, 127, 255, 255, 0, 1535, 4095]
theorem spec_l01Put.tab6 : rtab .any (opsOf Try.f93 6) = spec_l01Put.T6 := by kernel_rfl
theorem spec_l01Put.bits6 : waitsOk spec_l01Put.T6.2 spec_l01Put.B6 = true := by kernel_rfl
set_option maxHeartbeats 8000000 in
set_option maxRecDepth 100000 in
theorem spec_l01Put.calls (k : Nat) (A0 : Option Addr) (c0 : Nat) (l0 : List (S89)) (a1 : ByteArray) (a2_0 : Int) (a2_1 : Int) (r1 : List (S89)) (r2 : Bool) (w : World) (hr0 : Kd.C k89 w A0 l0.length l0) (hc0 : l0.length ≤ c0) (h : spec_l01Put.f k l0 a1 a2_0 a2_1 = some (r1, r2)) :
 Calls Try.prog 93 #[.slice A0 l0.length c0, .string a1, .agg #[.int .i64 a2_0, .int .i64 a2_1]] w fun e w' => ∃ v0_ : Value, e = .returned (.tuple #[v0_, .bool r2]) ∧ Kd.R k89 89 w' w.heap.size (fun _ => True) v0_ r1 ∧ Below w.heap.size w w' := by
 have hu27 := Try.underlying27
 have hu89 := Try.underlying89
 have HR0 := zA hr0
 have HC0 := zA hc0
 clear hr0 hc0
 have HB := zA (Below.refl w.heap.size w)
 have H : (spec_l01Put.l0 k l0 a1 0 a2_0 a2_1) = some (r1, r2) := h
 clear h
 have HC4 := zA H
 clear H
 go_enter Try.func93, Try.ntmps93
 go_upto_block 0 with (first | ((with_reducible refine gate_dst (N := 5) rfl ?_); refine zX 5 (#[.int .i64 a2_0, .int .i64 a2_1]) 27 ?_; intro gb197 hg w5 hbox hb; have BK197 := zA (hbox); have GW197 := zA (zG : w.heap.size ≤ gb197); have GE197 := zA (zG : w.heap.size ≤ gb197); replace HB := zA (below_step zB hb); clear hb hbox hg))
 (try simp only [Act.put, List.setIfInBounds_toArray, List.set])
 go_cut [8] (fun v8 wc => ∃ (kq : Nat) (x8_3 : Int), v8 = .int .i64 x8_3 ∧ Aside0 (spec_l01Put.j1 kq l0 a1 x8_3 a2_0 a2_1 = some (r1, r2)) ∧ Aside0 (kq ≤ k) ∧ Aside0 (wc.heap[gb197]? = some (.cells #[.int .i64 a2_0, .int .i64 a2_1] 27 (0, 0))) ∧ Aside0 (Below w.heap.size w wc))
 case first =>
  have H := HC4.out
  clear HC4
  have H' := zA H
  clear H
  go_wp2
  go_loopg [8] k (fun kq v8 w' => ∃ (x8_1 : Int), v8 = .int .i64 x8_1 ∧ Aside0 (spec_l01Put.l0 kq l0 a1 x8_1 a2_0 a2_1 = some (r1, r2)) ∧ Aside0 (kq ≤ k) ∧ Aside0 (w'.heap[gb197]? = some (.cells #[.int .i64 a2_0, .int .i64 a2_1] 27 (0, 0))) ∧ Aside0 (Below w.heap.size w w'))
  case atStart => exact ⟨(0), (by rfl), H', ⟨Nat.le_refl _⟩, ⟨zK⟩, ⟨zB⟩⟩
  case round =>
   clear H'
   obtain ⟨x8_1, rfl, HA, HK1, BK197, HB⟩ := hrel
   cases gk with
   | zero => exact absurd HA.out (by simp [spec_l01Put.l0])
   | succ k1 =>
    have H := HA.out
    clear HA
    simp only [spec_l01Put.l0] at H
    by_cases c6 : x8_1 < (l0.length : Int)
    ·rw [if_pos c6] at H
     have c6b0 : decide (x8_1 < (l0.length : Int)) = true := decide_eq_true c6
     clear c6
     (skip)
     by_cases c7 : 0 ≤ x8_1
     ·rw [if_pos c7] at H
      have c7b0 : decide (0 ≤ x8_1) = true := decide_eq_true c7
      clear c7
      replace H := Option.bind_eq_some_iff.mp H
      obtain ⟨t199, A80, H⟩ := H
      replace H : (if t199 = true then (spec_l01Put.l0 k1 l0 a1 (wrap64 (x8_1 + 1)) a2_0 a2_1) else (spec_l01Put.j1 k1 l0 a1 x8_1 a2_0 a2_1)) = some (r1, r2) := H
      have A8 := zA A80
      clear A80
      by_cases c9 : t199 = true
      ·subst c9
       have H1 : (spec_l01Put.l0 k1 l0 a1 (wrap64 (x8_1 + 1)) a2_0 a2_1) = some (r1, r2) := by rw [if_pos rfl] at H; exact H
       clear H
       have H := H1
       clear H1
       have H' := zA H
       clear H
       have p198 : 0 ≤ (x8_1 : Int) := zD
       have q198 : x8_1 < (l0.length : Int) := zD
       obtain ⟨ad198, e198, hx198_0, hx198_1, hx198_2⟩ := at_T89 HR0.out x8_1 p198 q198
       cases e198
       replace hx198_0 := zH HB hx198_0
       replace hx198_1 := zH HB hx198_1
       replace hx198_2 := zH HB hx198_2
       replace p198 := eq_true p198
       replace q198 := eq_true q198
       go_wp2_with (first | (go_at_call 105; (with_reducible refine (spec_l01Before.calls ((rd_T89 l0 x8_1).f0) a1 true _ A8.out).mono ?_); rintro e w' ⟨rfl, ⟨nd, rfl⟩⟩))
       go_roundg k1
       case measure => have := HK1.out; omega
       case rel => exact ⟨(wrap64 (x8_1 + 1)), (by rfl), H', ⟨by have := HK1.out; omega⟩, ⟨zK⟩, ⟨zB⟩⟩
      ·replace c9 := Bool.eq_false_iff.mpr c9
       subst c9
       have H1 : (spec_l01Put.j1 k1 l0 a1 x8_1 a2_0 a2_1) = some (r1, r2) := by rw [if_neg (show ¬ (false = true) by decide)] at H; exact H
       clear H
       have H := H1
       clear H1
       have H' := zA H
       clear H
       have p198 : 0 ≤ (x8_1 : Int) := zD
       have q198 : x8_1 < (l0.length : Int) := zD
       obtain ⟨ad198, e198, hx198_0, hx198_1, hx198_2⟩ := at_T89 HR0.out x8_1 p198 q198
       cases e198
       replace hx198_0 := zH HB hx198_0
       replace hx198_1 := zH HB hx198_1
       replace hx198_2 := zH HB hx198_2
       replace p198 := eq_true p198
       replace q198 := eq_true q198
       go_wp2_with (first | (go_at_call 105; (with_reducible refine (spec_l01Before.calls ((rd_T89 l0 x8_1).f0) a1 false _ A8.out).mono ?_); rintro e w' ⟨rfl, ⟨nd, rfl⟩⟩))
       go_meet
       case rel => exact ⟨_, (x8_1), (by rfl), H', ⟨by have := HK1.out; omega⟩, ⟨zK⟩, ⟨zB⟩⟩
     ·rw [if_neg c7] at H
      exact absurd H (by simp)
    ·rw [if_neg c6] at H
     have c6b0 : decide (x8_1 < (l0.length : Int)) = false := decide_eq_false c6
     clear c6
     (skip)
     have H' := zA H
     clear H
     go_wp2
     go_meet
     case rel => exact ⟨_, (x8_1), (by rfl), H', ⟨by have := HK1.out; omega⟩, ⟨zK⟩, ⟨zB⟩⟩
 case rest =>
  clear HC4
  obtain ⟨kq, x8_3, rfl, HA, HJ3, BK197, HB⟩ := hcut
  cases kq with
  | zero => exact absurd HA.out (by simp [spec_l01Put.j1])
  | succ kj3 =>
   have H := HA.out
   clear HA
   simp only [spec_l01Put.j1] at H
   obtain ⟨y200, hy200⟩ : ∃ y_ : List (S89), y_ = (([] : List (S89))) := ⟨_, rfl⟩
   replace H : (if 0 ≤ x8_3 then (if x8_3 ≤ (l0.length : Int) then ((some (l0.take (x8_3 : Int).toNat : List (S89))).bind fun y203 => (if y200.length + y203.length < 4398046511104 then ((some (y200 ++ y203 : List (S89))).bind fun y207 => (if x8_3 < (l0.length : Int) then (spec_l01Put.j2 kj3 l0 a1 x8_3 y207 (((rd_T89 l0 x8_3).f0).toList == a1.toList) a2_0 a2_1) else (spec_l01Put.j2 kj3 l0 a1 x8_3 y207 false a2_0 a2_1))) else (none))) else (none)) else (none)) = some (r1, r2) := by (have H2_ := (Option.bind_some _ _).symm.trans H; rw [hy200]; with_reducible exact H2_)
   have Ny200 := zA hy200
   clear hy200
   by_cases c10 : 0 ≤ x8_3
   ·rw [if_pos c10] at H
    have c10b0 := eq_true c10
    have c10b1 : decide (0 ≤ x8_3) = true := decide_eq_true c10
    clear c10
    by_cases c11 : x8_3 ≤ (l0.length : Int)
    ·rw [if_pos c11] at H
     have c11b0 := eq_true c11
     have c11b1 : decide (x8_3 ≤ (l0.length : Int)) = true := decide_eq_true c11
     clear c11
     obtain ⟨y203, hy203⟩ : ∃ y_ : List (S89), y_ = (l0.take (x8_3 : Int).toNat) := ⟨_, rfl⟩
     replace H : (if y200.length + y203.length < 4398046511104 then ((some (y200 ++ y203 : List (S89))).bind fun y207 => (if x8_3 < (l0.length : Int) then (spec_l01Put.j2 kj3 l0 a1 x8_3 y207 (((rd_T89 l0 x8_3).f0).toList == a1.toList) a2_0 a2_1) else (spec_l01Put.j2 kj3 l0 a1 x8_3 y207 false a2_0 a2_1))) else (none)) = some (r1, r2) := by (have H2_ := (Option.bind_some _ _).symm.trans H; rw [hy203]; with_reducible exact H2_)
     have Ny203 := zA hy203
     clear hy203
     by_cases c12 : y200.length + y203.length < 4398046511104
     ·rw [if_pos c12] at H
      have LMc12 := zA c12
      clear c12
      obtain ⟨y207, hy207⟩ : ∃ y_ : List (S89), y_ = (y200 ++ y203) := ⟨_, rfl⟩
      replace H : (if x8_3 < (l0.length : Int) then (spec_l01Put.j2 kj3 l0 a1 x8_3 y207 (((rd_T89 l0 x8_3).f0).toList == a1.toList) a2_0 a2_1) else (spec_l01Put.j2 kj3 l0 a1 x8_3 y207 false a2_0 a2_1)) = some (r1, r2) := by (have H2_ := (Option.bind_some _ _).symm.trans H; rw [hy207]; with_reducible exact H2_)
      have Ny207 := zA hy207
      clear hy207
      have HC13 := zA H
      clear H
      go_upto_region 5 with (first | ((with_reducible refine gate_dst (N := 27) rfl ?_); refine Kd.R_lit k89 _ 89 ?hg (N := 27) ?hd (xs := ([] : List (S89))) (inner := []) (ok := fun _ => True) (okp := fun _ => True) ?hr ?hp (fun _ hk => hk) trivial (Below.refl _ _) (Nat.le_refl _) (by simp) ?_; (case hd => rfl); (case hg => rfl); (case hr => (go_simp; done)); (case hp => exact (Reps.none _ _)); intro v201 w14 ho15 hb hg_ hnew_; clear hg_ hnew_; (rw [← Ny200.out] at ho15); have HO202 := zA (Kd.R_lower ho15 (below_size zB)); replace BK197 := zA (zW BK197 hb); replace HB := zA (below_step zB hb); clear hb ho15; have q16 : (x8_3 : Int) ≤ ((l0.length : Int) : Int) := zD; obtain ⟨i016, hi016, _, hsz16, _⟩ := info_parts info89; have hroom16 : l0.length ≤ c0 := HC0.out; have hC16 : Kd.C k89 _ A0 l0.length l0 := HR0.out; have hcut16 := cut_to (P := Try.prog) 30 89 .i64 Try.underlying30 hi016 A0 l0.length c0 x8_3 (zD) q16 hroom16; have hr16 := Kd.C_take (m := (x8_3 : Int).toNat) hC16 (by omega); have hy16 : y203.length = (x8_3 : Int).toNat := (by rw [Ny203.out, List.length_take]; omega); rw [← Ny203.out] at hr16; rw [← hy16] at hcut16; have HR206 := zA hr16; have HC206 := zA (show y203.length ≤ c0 from by omega); clear hr16 hC16 hroom16 hi016 hsz16; have KY16 := zA hy16; clear hy16; replace q16 := eq_true q16) | ((with_reducible refine gate_builtin (b := .append) (xs := #[.tmp 27, .tmp 30]) rfl ?_); at_builtin; refine Kd.R_append_rows k89 (w0 := w) w.heap.size rfl (.tmp 27) (.tmp 30) 30 89 (.agg #[(.string ⟨#[]⟩), (.int .i64 0), (.int .i64 0)]) 32 rfl Try.underlying30 info89 rfl (by decide) (by omega) v201 y200 y203 _ _ _ (fun _ => True) (fun _ => False) rfl rfl ?aO ?aR (fun _ _ h => h) (fun _ h => h.elim) ?aF ?aB ?aS ?aL ?_; (case aR => repeat (exact (Kd.C_below HR206.out HB.out))); (case aB => exact zB); (case aF => exact (fun _ _ => trivial)); (case aO => exact zR); (case aS => exact (below_size zB)); (case aL => have := LMc12.out; omega); intro v208 w17 ho hb hg hat; rw [← Ny207.out] at ho; have HO209 := zA (ho); replace BK197 := zA (blk_grown (g := gb197) (o := .cells #[.int .i64 a2_0, .int .i64 a2_1] 27 (0, 0)) zK hg (Kd.R_ne HO202.out BK197.out (by decide))); replace HB := zA (hb); clear HO202; clear ho hb hg hat))
      (try simp only [Act.put, List.setIfInBounds_toArray, List.set])
      go_cut [44] (fun v44 wc => ∃ (kq : Nat) (x44_12 : Bool), v44 = .bool x44_12 ∧ Aside0 (spec_l01Put.j2 kq l0 a1 x8_3 y207 x44_12 a2_0 a2_1 = some (r1, r2)) ∧ Aside0 (kq ≤ kj3) ∧ Aside0 (Kd.R k89 89 wc w.heap.size (fun _ => True) v208 y207) ∧ Aside0 (wc.heap[gb197]? = some (.cells #[.int .i64 a2_0, .int .i64 a2_1] 27 (0, 0))) ∧ Aside0 (Below w.heap.size w wc))
      case first =>
       have H := HC13.out
       clear HC13
       by_cases c18 : x8_3 < (l0.length : Int)
       ·rw [if_pos c18] at H
        have c18b0 : decide (x8_3 < (l0.length : Int)) = true := decide_eq_true c18
        clear c18
        (skip)
        have H' := zA H
        clear H
        have p210 : 0 ≤ (x8_3 : Int) := zD
        have q210 : x8_3 < (l0.length : Int) := zD
        obtain ⟨ad210, e210, hx210_0, hx210_1, hx210_2⟩ := at_T89 HR0.out x8_3 p210 q210
        cases e210
        replace hx210_0 := zH HB hx210_0
        replace hx210_1 := zH HB hx210_1
        replace hx210_2 := zH HB hx210_2
        replace p210 := eq_true p210
        replace q210 := eq_true q210
        go_wp2
        go_meet
        case rel => exact ⟨_, ((((rd_T89 l0 x8_3).f0).toList == a1.toList)), (by rfl), H', ⟨by have := HJ3.out; omega⟩, ⟨zR⟩, ⟨zK⟩, ⟨zB⟩⟩
       ·rw [if_neg c18] at H
        have c18b0 : decide (x8_3 < (l0.length : Int)) = false := decide_eq_false c18
        clear c18
        (skip)
        have H' := zA H
        clear H
        go_wp2
        go_meet
        case rel => exact ⟨_, (false), (by rfl), H', ⟨by have := HJ3.out; omega⟩, ⟨zR⟩, ⟨zK⟩, ⟨zB⟩⟩
      case rest =>
       clear HC13
       obtain ⟨kq, x44_12, rfl, HA, HJ12, HO_9, BK197, HB⟩ := hcut
       cases kq with
       | zero => exact absurd HA.out (by simp [spec_l01Put.j2])
       | succ kj12 =>
        have H := HA.out
        clear HA
        simp only [spec_l01Put.j2] at H
        by_cases c19 : x44_12 = true
        ·subst c19
         have H1 : (if 0 ≤ x8_3 then (if x8_3 < (l0.length : Int) then ((spec_l01Plus.f kj12 ((rd_T89 l0 x8_3).f1.f0) ((rd_T89 l0 x8_3).f1.f1) a2_0 a2_1).bind fun bt212 => (if bt212.2.2 = true then ((spec_l01Zero.f bt212.1 bt212.2.1).bind fun t216 => (if t216 = true then (if 0 ≤ (wrap64 (x8_3 + 1)) then (if (wrap64 (x8_3 + 1)) ≤ (l0.length : Int) then ((some (l0.drop ((wrap64 (x8_3 + 1)) : Int).toNat : List (S89))).bind fun y217 => (if y207.length + y217.length < 4398046511104 then (some ((y207 ++ y217), true)) else (none))) else (none)) else (none)) else (if y207.length < 4398046511104 then ((some (y207 ++ [(⟨a1, (⟨bt212.1, bt212.2.1⟩ : S27)⟩ : S89)] : List (S89))).bind fun y224 => (if 0 ≤ (wrap64 (x8_3 + 1)) then (if (wrap64 (x8_3 + 1)) ≤ (l0.length : Int) then ((some (l0.drop ((wrap64 (x8_3 + 1)) : Int).toNat : List (S89))).bind fun y227 => (if y224.length + y227.length < 4398046511104 then (some ((y224 ++ y227), true)) else (none))) else (none)) else (none))) else (none)))) else (some (([] : List (S89)), false)))) else (none)) else (none)) = some (r1, r2) := by rw [if_pos rfl] at H; exact H
         clear H
         have H := H1
         clear H1
         by_cases c20 : 0 ≤ x8_3
         ·rw [if_pos c20] at H
          have c20b0 : decide (0 ≤ x8_3) = true := decide_eq_true c20
          clear c20
          by_cases c21 : x8_3 < (l0.length : Int)
          ·rw [if_pos c21] at H
           have c21b0 : decide (x8_3 < (l0.length : Int)) = true := decide_eq_true c21
           clear c21
           replace H := Option.bind_eq_some_iff.mp H
           obtain ⟨⟨t212, t213, t214⟩, A220, H⟩ := H
           replace H : (if t214 = true then ((spec_l01Zero.f t212 t213).bind fun t216 => (if t216 = true then (if 0 ≤ (wrap64 (x8_3 + 1)) then (if (wrap64 (x8_3 + 1)) ≤ (l0.length : Int) then ((some (l0.drop ((wrap64 (x8_3 + 1)) : Int).toNat : List (S89))).bind fun y217 => (if y207.length + y217.length < 4398046511104 then (some ((y207 ++ y217), true)) else (none))) else (none)) else (none)) else (if y207.length < 4398046511104 then ((some (y207 ++ [(⟨a1, (⟨t212, t213⟩ : S27)⟩ : S89)] : List (S89))).bind fun y224 => (if 0 ≤ (wrap64 (x8_3 + 1)) then (if (wrap64 (x8_3 + 1)) ≤ (l0.length : Int) then ((some (l0.drop ((wrap64 (x8_3 + 1)) : Int).toNat : List (S89))).bind fun y227 => (if y224.length + y227.length < 4398046511104 then (some ((y224 ++ y227), true)) else (none))) else (none)) else (none))) else (none)))) else (some (([] : List (S89)), false))) = some (r1, r2) := H
           have A22 := zA A220
           clear A220
           by_cases c23 : t214 = true
           ·subst c23
            have H1 : ((spec_l01Zero.f t212 t213).bind fun t216 => (if t216 = true then (if 0 ≤ (wrap64 (x8_3 + 1)) then (if (wrap64 (x8_3 + 1)) ≤ (l0.length : Int) then ((some (l0.drop ((wrap64 (x8_3 + 1)) : Int).toNat : List (S89))).bind fun y217 => (if y207.length + y217.length < 4398046511104 then (some ((y207 ++ y217), true)) else (none))) else (none)) else (none)) else (if y207.length < 4398046511104 then ((some (y207 ++ [(⟨a1, (⟨t212, t213⟩ : S27)⟩ : S89)] : List (S89))).bind fun y224 => (if 0 ≤ (wrap64 (x8_3 + 1)) then (if (wrap64 (x8_3 + 1)) ≤ (l0.length : Int) then ((some (l0.drop ((wrap64 (x8_3 + 1)) : Int).toNat : List (S89))).bind fun y227 => (if y224.length + y227.length < 4398046511104 then (some ((y224 ++ y227), true)) else (none))) else (none)) else (none))) else (none)))) = some (r1, r2) := by rw [if_pos rfl] at H; exact H
            clear H
            have H := H1
            clear H1
            replace H := Option.bind_eq_some_iff.mp H
            obtain ⟨t216, A240, H⟩ := H
            replace H : (if t216 = true then (if 0 ≤ (wrap64 (x8_3 + 1)) then (if (wrap64 (x8_3 + 1)) ≤ (l0.length : Int) then ((some (l0.drop ((wrap64 (x8_3 + 1)) : Int).toNat : List (S89))).bind fun y217 => (if y207.length + y217.length < 4398046511104 then (some ((y207 ++ y217), true)) else (none))) else (none)) else (none)) else (if y207.length < 4398046511104 then ((some (y207 ++ [(⟨a1, (⟨t212, t213⟩ : S27)⟩ : S89)] : List (S89))).bind fun y224 => (if 0 ≤ (wrap64 (x8_3 + 1)) then (if (wrap64 (x8_3 + 1)) ≤ (l0.length : Int) then ((some (l0.drop ((wrap64 (x8_3 + 1)) : Int).toNat : List (S89))).bind fun y227 => (if y224.length + y227.length < 4398046511104 then (some ((y224 ++ y227), true)) else (none))) else (none)) else (none))) else (none))) = some (r1, r2) := H
            have A24 := zA A240
            clear A240
            by_cases c25 : t216 = true
            ·subst c25
             have H1 : (if 0 ≤ (wrap64 (x8_3 + 1)) then (if (wrap64 (x8_3 + 1)) ≤ (l0.length : Int) then ((some (l0.drop ((wrap64 (x8_3 + 1)) : Int).toNat : List (S89))).bind fun y217 => (if y207.length + y217.length < 4398046511104 then (some ((y207 ++ y217), true)) else (none))) else (none)) else (none)) = some (r1, r2) := by rw [if_pos rfl] at H; exact H
             clear H
             have H := H1
             clear H1
             obtain ⟨ji26, hji26⟩ : ∃ j_ : Int, (wrap64 (x8_3 + 1)) = j_ := ⟨_, rfl⟩
             replace H : (if 0 ≤ (ji26) then (if (ji26) ≤ (l0.length : Int) then ((some (l0.drop ((ji26) : Int).toNat : List (S89))).bind fun y217 => (if y207.length + y217.length < 4398046511104 then (some ((y207 ++ y217), true)) else (none))) else (none)) else (none)) = some (r1, r2) := by (rw [hji26] at H; exact H)
             (try rw [hji26] at A22)
             (try rw [hji26] at A24)
             have hji26w : (IntKind.i64.wrap (x8_3 + 1)) = ji26 := (i64_w _).trans hji26
             by_cases c27 : 0 ≤ (ji26)
             ·rw [if_pos c27] at H
              have c27b0 := eq_true c27
              have c27b1 : decide (0 ≤ (ji26)) = true := decide_eq_true c27
              clear c27
              by_cases c28 : (ji26) ≤ (l0.length : Int)
              ·rw [if_pos c28] at H
               have c28b0 := eq_true c28
               have c28b1 : decide ((ji26) ≤ (l0.length : Int)) = true := decide_eq_true c28
               clear c28
               obtain ⟨y217, hy217⟩ : ∃ y_ : List (S89), y_ = (l0.drop ((ji26) : Int).toNat) := ⟨_, rfl⟩
               replace H : (if y207.length + y217.length < 4398046511104 then (some ((y207 ++ y217), true)) else (none)) = some (r1, r2) := by (have H2_ := (Option.bind_some _ _).symm.trans H; rw [hy217]; with_reducible exact H2_)
               have Ny217 := zA hy217
               clear hy217
               by_cases c29 : y207.length + y217.length < 4398046511104
               ·rw [if_pos c29] at H
                have LMc29 := zA c29
                clear c29
                obtain ⟨y221, hy221⟩ : ∃ y_ : List (S89), y_ = (y207 ++ y217) := ⟨_, rfl⟩
                replace H : (some (y221, true)) = some (r1, r2) := by (rw [hy221]; with_reducible exact H)
                have Ny221 := zA hy221
                clear hy221
                simp only [Option.some.injEq, Prod.mk.injEq] at H
                obtain ⟨rfl, rfl⟩ := H
                try go_wp2
                replace HO_9 := zA (Kd.R_drew HO_9.out)
                replace BK197 := zA (blk_drew BK197.out)
                replace HB := zA (below_drew1 HB.out)
                have p211 : 0 ≤ (x8_3 : Int) := zD
                have q211 : x8_3 < (l0.length : Int) := zD
                obtain ⟨ad211, e211, hx211_0, hx211_1, hx211_2⟩ := at_T89 HR0.out x8_3 p211 q211
                have hw211_2 := hx211_2
                have hw211_1 := hx211_1
                have hw211_0 := hx211_0
                cases e211
                replace hx211_0 := zH HB hx211_0
                replace hx211_1 := zH HB hx211_1
                replace hx211_2 := zH HB hx211_2
                replace p211 := eq_true p211
                replace q211 := eq_true q211
                refine start_ (n := 13) (S := fun w' => w'.cell? ⟨gb197, 0, none⟩ = some (.int .i64 a2_0) ∧ w'.cell? ⟨gb197, 1, none⟩ = some (.int .i64 a2_1) ∧ w'.cell? (ad211.add ((x8_3).toNat * 3)) = some (.string ((rd_T89 l0 x8_3).f0)) ∧ w'.cell? ⟨(ad211.add ((x8_3).toNat * 3)).block, (ad211.add ((x8_3).toNat * 3)).off + 1, none⟩ = some (.int .i64 ((rd_T89 l0 x8_3).f1.f0)) ∧ w'.cell? ⟨(ad211.add ((x8_3).toNat * 3)).block, (ad211.add ((x8_3).toNat * 3)).off + 2, none⟩ = some (.int .i64 ((rd_T89 l0 x8_3).f1.f1))) (ds := []) #[false, false, false, false, false, false, false, false, false, false, false, false, false] (by kernel_rfl) rfl rfl ⟨(blk_cell BK197.out 0).trans rfl, (blk_cell BK197.out 1).trans rfl, (zH HB hw211_0 :), (zH HB hw211_1 :), (zH HB hw211_2 :)⟩ (fun hHeld => ?_); refine with_tabW spec_l01Put.tab6 spec_l01Put.bits6 (fun HT_ HW_ => ?_)
                generalize wc.drew = w30 at HO_9 BK197 HB hx211_0 hx211_1 hx211_2 hHeld ⊢
                refine zP 0 (N := some 46) (h := ?_)
                refine zP 1 (N := some 47) (h := ?_)
                refine zP 2 (N := some 48) (h := ?_)
                refine zP 3 (N := some 49) (h := ?_)
                refine zT 4 hHeld (N := some 50) (h := ?_)
                refine zT 5 hHeld (N := some 51) (h := ?_)
                refine join_ (σ := Nat) 2 #[true, true, true, true, true, true, true, true, true, true, true, false, false] (fun s_ => [(52, .tuple #[.agg #[.int .i64 t212, .int .i64 t213], .bool true]), (10, .pointer (some ⟨s_, 0, none⟩)), (45, .tuple #[.agg #[.int .i64 t212, .int .i64 t213], .bool true]), (53, .agg #[.int .i64 t212, .int .i64 t213]), (54, .bool true)]) (fun s_ w' => (w'.cell? ⟨gb197, 0, none⟩ = some (.int .i64 a2_0) ∧ w'.cell? ⟨gb197, 1, none⟩ = some (.int .i64 a2_1) ∧ w'.cell? (ad211.add ((x8_3).toNat * 3)) = some (.string ((rd_T89 l0 x8_3).f0)) ∧ w'.cell? ⟨(ad211.add ((x8_3).toNat * 3)).block, (ad211.add ((x8_3).toNat * 3)).off + 1, none⟩ = some (.int .i64 ((rd_T89 l0 x8_3).f1.f0)) ∧ w'.cell? ⟨(ad211.add ((x8_3).toNat * 3)).block, (ad211.add ((x8_3).toNat * 3)).off + 2, none⟩ = some (.int .i64 ((rd_T89 l0 x8_3).f1.f1))) ∧ (Kd.R k89 89 w' w.heap.size (fun _ => True) v208 y207) ∧ (w'.heap[gb197]? = some (.cells #[.int .i64 a2_0, .int .i64 a2_1] 27 (0, 0))) ∧ (w'.heap[s_]? = some (.cells #[.int .i64 0, .int .i64 0] 27 (0, 0))) ∧ (w.heap.size ≤ s_) ∧ (w.heap.size ≤ s_) ∧ (gb197 ≠ s_) ∧ (s_ ≠ gb197) ∧ (Below w.heap.size w w')) ?_ ?_
                rotate_left
                ·intro hCont
                 refine two_ (i := 6) (j := 10) (Ni := some 52) (Nj := some 10) #[true, true, true, true, true, true, true, false, false, false, false, false, false] #[true, true, true, true, true, true, false, false, false, false, true, false, false] rfl rfl rfl rfl (two_of HT_.out (by kernel_rfl)) (by decide) (by decide) (fun K hK => ?_) (fun K hK => ?_)
                 ·skip
                  refine goes_ Try.func109 (by kernel_rfl) rfl #[.agg #[.int .i64 ((rd_T89 l0 x8_3).f1.f0), .int .i64 ((rd_T89 l0 x8_3).f1.f1)], .agg #[.int .i64 a2_0, .int .i64 a2_1]] (by rfl) rfl rfl zM ?_
                  with_reducible refine (spec_l01Plus.calls kj12 ((rd_T89 l0 x8_3).f1.f0) ((rd_T89 l0 x8_3).f1.f1) a2_0 a2_1 t212 t213 true _ A22.out).mono ?_
                  rintro e w31 ⟨rfl, hb⟩
                  refine ⟨_, rfl, ?_⟩
                  replace HO_9 := zA (Kd.R_below HO_9.out hb)
                  replace BK197 := zA (zW BK197 hb)
                  replace HB := zA (below_step zB hb)
                  (try clear hb)
                  (try clear hb2)
                  (try clear hk)
                  (try clear hi)
                  refine hK.out _ _ ⟨(blk_cell BK197.out 0).trans rfl, (blk_cell BK197.out 1).trans rfl, (zH HB hw211_0 :), (zH HB hw211_1 :), (zH HB hw211_2 :)⟩ (fun hHeld => ?_)
                  clear hK K
                  refine norm_ (a' := ?_) ?_ ?_
                  rotate_left
                  ·show Act.put _ (some 52) _ = _
                   simp only [Act.put, List.setIfInBounds_toArray, List.set, i64_w, i32_w]
                   rfl
                  refine zP 7 (N := some 45) (h := ?_)
                  refine zP 8 (N := some 53) (h := ?_)
                  refine zP 9 (N := some 54) (h := ?_)
                  refine one_ (i := 10) (N := some 10) #[true, true, true, true, true, true, true, true, true, true, true, false, false] rfl rfl (one_of HT_.out (by kernel_rfl)) (by decide) (fun K hK => ?_)
                  refine box_step ?hg (N := 10) ?hd (cs := #[.int .i64 0, .int .i64 0]) (t := 27) ?hr ?_; (case hd => rfl); (case hg => rfl); (case hr => (go_simp; done))
                  intro gb215 hg w32 hbox hb
                  have BK215 := zA (hbox)
                  have GW215 := zA (zG : w.heap.size ≤ gb215)
                  have GE215 := zA (zG : w.heap.size ≤ gb215)
                  have NB197_215 := zA (zU BK197 hg)
                  have NB215_197 := zA (zV BK197 hg)
                  replace HO_9 := zA (Kd.R_below HO_9.out hb)
                  replace BK197 := zA (zW BK197 hb)
                  replace HB := zA (below_step zB hb)
                  clear hb hbox hg
                  refine hK.out _ _ ⟨(blk_cell BK197.out 0).trans rfl, (blk_cell BK197.out 1).trans rfl, (zH HB hw211_0 :), (zH HB hw211_1 :), (zH HB hw211_2 :)⟩ (fun hHeld => ?_)
                  clear hK K
                  refine norm_ (a' := ?_) ?_ ?_
                  rotate_left
                  ·show Act.put _ (some 10) _ = _
                   simp only [Act.put, List.setIfInBounds_toArray, List.set, i64_w, i32_w]
                   rfl
                  exact norm_ (by simp only [putAll, Act.put, List.setIfInBounds_toArray, List.set]) (hCont (gb215) _ ⟨hHeld, zR, zK, zK, GW215.out, GE215.out, NB197_215.out, NB215_197.out, zB⟩)
                 ·skip
                  refine box_step ?hg (N := 10) ?hd (cs := #[.int .i64 0, .int .i64 0]) (t := 27) ?hr ?_; (case hd => rfl); (case hg => rfl); (case hr => (go_simp; done))
                  intro gb215 hg w31 hbox hb
                  have BK215 := zA (hbox)
                  have GW215 := zA (zG : w.heap.size ≤ gb215)
                  have GE215 := zA (zG : w.heap.size ≤ gb215)
                  have NB197_215 := zA (zU BK197 hg)
                  have NB215_197 := zA (zV BK197 hg)
                  replace HO_9 := zA (Kd.R_below HO_9.out hb)
                  replace BK197 := zA (zW BK197 hb)
                  replace HB := zA (below_step zB hb)
                  clear hb hbox hg
                  refine hK.out _ _ ⟨(blk_cell BK197.out 0).trans rfl, (blk_cell BK197.out 1).trans rfl, (zH HB hw211_0 :), (zH HB hw211_1 :), (zH HB hw211_2 :)⟩ (fun hHeld => ?_)
                  clear hK K
                  refine norm_ (a' := ?_) ?_ ?_
                  rotate_left
                  ·show Act.put _ (some 10) _ = _
                   simp only [Act.put, List.setIfInBounds_toArray, List.set, i64_w, i32_w]
                   rfl
                  refine one_ (i := 6) (N := some 52) #[true, true, true, true, true, true, true, false, false, false, true, false, false] rfl rfl (one_of HT_.out (by kernel_rfl)) (by decide) (fun K hK => ?_)
                  refine goes_ Try.func109 (by kernel_rfl) rfl #[.agg #[.int .i64 ((rd_T89 l0 x8_3).f1.f0), .int .i64 ((rd_T89 l0 x8_3).f1.f1)], .agg #[.int .i64 a2_0, .int .i64 a2_1]] (by rfl) rfl rfl zM ?_
                  with_reducible refine (spec_l01Plus.calls kj12 ((rd_T89 l0 x8_3).f1.f0) ((rd_T89 l0 x8_3).f1.f1) a2_0 a2_1 t212 t213 true _ A22.out).mono ?_
                  rintro e w32 ⟨rfl, hb⟩
                  refine ⟨_, rfl, ?_⟩
                  replace HO_9 := zA (Kd.R_below HO_9.out hb)
                  replace BK197 := zA (zW BK197 hb)
                  replace BK215 := zA (zW BK215 hb)
                  replace HB := zA (below_step zB hb)
                  (try clear hb)
                  (try clear hb2)
                  (try clear hk)
                  (try clear hi)
                  refine hK.out _ _ ⟨(blk_cell BK197.out 0).trans rfl, (blk_cell BK197.out 1).trans rfl, (zH HB hw211_0 :), (zH HB hw211_1 :), (zH HB hw211_2 :)⟩ (fun hHeld => ?_)
                  clear hK K
                  refine norm_ (a' := ?_) ?_ ?_
                  rotate_left
                  ·show Act.put _ (some 52) _ = _
                   simp only [Act.put, List.setIfInBounds_toArray, List.set, i64_w, i32_w]
                   rfl
                  refine zP 7 (N := some 45) (h := ?_)
                  refine zP 8 (N := some 53) (h := ?_)
                  refine zP 9 (N := some 54) (h := ?_)
                  exact norm_ (by simp only [putAll, Act.put, List.setIfInBounds_toArray, List.set]) (hCont (gb215) _ ⟨hHeld, zR, zK, zK, GW215.out, GE215.out, NB197_215.out, NB215_197.out, zB⟩)
                rintro gb215 w33 ⟨hS_, h0_, h1_, h2_, h3_, h4_, h5_, h6_, h7_⟩
                have BK215 : Aside0 (w33.heap[gb215]? = some (.cells #[.int .i64 0, .int .i64 0] 27 (0, 0))) := ⟨h2_⟩
                have GW215 : Aside0 (w.heap.size ≤ gb215) := ⟨h3_⟩
                have GE215 : Aside0 (w.heap.size ≤ gb215) := ⟨h4_⟩
                have NB197_215 : Aside0 (gb197 ≠ gb215) := ⟨h5_⟩
                have NB215_197 : Aside0 (gb215 ≠ gb197) := ⟨h6_⟩
                replace HO_9 : Aside0 (Kd.R k89 89 w33 w.heap.size (fun _ => True) v208 y207) := ⟨h0_⟩
                replace BK197 : Aside0 (w33.heap[gb197]? = some (.cells #[.int .i64 a2_0, .int .i64 a2_1] 27 (0, 0))) := ⟨h1_⟩
                replace HB : Aside0 (Below w.heap.size w w33) := ⟨h7_⟩
                clear h0_ h1_ h2_ h3_ h4_ h5_ h6_ h7_
                have hHeld : w33.cell? ⟨gb197, 0, none⟩ = some (.int .i64 a2_0) ∧ w33.cell? ⟨gb197, 1, none⟩ = some (.int .i64 a2_1) ∧ w33.cell? (ad211.add ((x8_3).toNat * 3)) = some (.string ((rd_T89 l0 x8_3).f0)) ∧ w33.cell? ⟨(ad211.add ((x8_3).toNat * 3)).block, (ad211.add ((x8_3).toNat * 3)).off + 1, none⟩ = some (.int .i64 ((rd_T89 l0 x8_3).f1.f0)) ∧ w33.cell? ⟨(ad211.add ((x8_3).toNat * 3)).block, (ad211.add ((x8_3).toNat * 3)).off + 2, none⟩ = some (.int .i64 ((rd_T89 l0 x8_3).f1.f1)) := hS_
                refine norm_ (a' := ?_) ?_ ?_
                rotate_left
                ·simp only [putAll, Act.put, List.setIfInBounds_toArray, List.set]
                 rfl
                refine one_ (i := 11) (N := none) #[true, true, true, true, true, true, true, true, true, true, true, true, false] rfl rfl (one_of HT_.out (by kernel_rfl)) (by decide) (fun K hK => ?_)
                have hs34 : w33.cell? ⟨gb215, 0, none⟩ = some (.int .i64 0) := (blk_cell BK215.out 0).trans rfl
                have hfs34 := blk_frozen BK215.out 0
                have hns34_0 := NB197_215.out
                have hms34_0 := NB215_197.out
                have hs35 : w33.cell? ⟨gb215, 1, none⟩ = some (.int .i64 0) := (blk_cell BK215.out 1).trans rfl
                have hfs35 := blk_frozen BK215.out 1
                have hns35_0 := NB197_215.out
                have hms35_0 := NB215_197.out
                refine skip_ (w1 := ?_) (by rfl) rfl ?_ ?_
                rotate_left
                ·go_simp
                 rfl
                refine hK.out _ _ ⟨((cell_far (p := ⟨gb215, _, none⟩) NB197_215.out _).trans (((cell_far (p := ⟨gb215, _, none⟩) NB197_215.out _).trans (hHeld.1)))), ((cell_far (p := ⟨gb215, _, none⟩) NB197_215.out _).trans (((cell_far (p := ⟨gb215, _, none⟩) NB197_215.out _).trans (hHeld.2.1)))), ((cell_far (p := ⟨gb215, _, none⟩) (by exact Nat.ne_of_lt (Nat.lt_of_lt_of_le (by have := World.block_lt_of_cell? _ _ hw211_0; exact this) GW215.out)) _).trans (((cell_far (p := ⟨gb215, _, none⟩) (by exact Nat.ne_of_lt (Nat.lt_of_lt_of_le (by have := World.block_lt_of_cell? _ _ hw211_0; exact this) GW215.out)) _).trans (hHeld.2.2.1)))), ((cell_far (p := ⟨gb215, _, none⟩) (by exact Nat.ne_of_lt (Nat.lt_of_lt_of_le (by have := World.block_lt_of_cell? _ _ hw211_1; exact this) GW215.out)) _).trans (((cell_far (p := ⟨gb215, _, none⟩) (by exact Nat.ne_of_lt (Nat.lt_of_lt_of_le (by have := World.block_lt_of_cell? _ _ hw211_1; exact this) GW215.out)) _).trans (hHeld.2.2.2.1)))), ((cell_far (p := ⟨gb215, _, none⟩) (by exact Nat.ne_of_lt (Nat.lt_of_lt_of_le (by have := World.block_lt_of_cell? _ _ hw211_2; exact this) GW215.out)) _).trans (((cell_far (p := ⟨gb215, _, none⟩) (by exact Nat.ne_of_lt (Nat.lt_of_lt_of_le (by have := World.block_lt_of_cell? _ _ hw211_2; exact this) GW215.out)) _).trans (hHeld.2.2.2.2))))⟩ (fun hHeld => ?_)
                clear hK K
                refine zP 12 (N := some 11) (h := ?_)
                refine done_ (done_of HT_.out (by kernel_rfl)) ?_
                have hnb36 := NB215_197.out
                have hnc36 := NB197_215.out
                obtain ⟨hcz37_0, hcz37_1, hfz37_0, hfz37_1⟩ := zC2 BK215
                obtain ⟨hcz38_0, hcz38_1, hfz38_0, hfz38_1⟩ := zC2 BK197
                try go_wp2_with (first | ((with_reducible refine gate_callee (f := 104) rfl ?_); refine goesL_ (some 61) rfl rfl Try.func104 (by kernel_rfl) rfl #[.agg #[.int .i64 t212, .int .i64 t213]] rfl zM ?_; (with_reducible refine (spec_l01Zero.calls t212 t213 true _ A24.out).mono ?_); rintro e w39 ⟨rfl, hb⟩; refine ⟨_, rfl, ?_⟩; replace HO_9 := zA (Kd.R_below (by exact (Kd.R_mono (Kd.R_mono (Kd.R_far (p := ⟨gb197, 1, none⟩) (Kd.R_far (p := ⟨gb197, 0, none⟩) (Kd.R_far (p := ⟨gb215, 1, none⟩) (Kd.R_far (p := ⟨gb215, 0, none⟩) (Kd.R_types (Kd.R_types HO_9.out BK215.out (by decide)) BK197.out (by decide)) (fun _ hk => hk.1.2) (.int .i64 t212)) (fun _ hk => hk.1.2) (.int .i64 t213)) (fun _ hk => hk.2) (.int .i64 t212)) (fun _ hk => hk.2) (.int .i64 t213)) (fun _ h_ => h_.1)) (fun _ h_ => h_.1))) hb); replace BK197 := zA (blk_below (g := gb197) (o := .cells #[.int .i64 t212, .int .i64 t213] 27 (0, 0)) (by refine blk_put (cs := #[.int .i64 t212, .int .i64 a2_1]) ?_ 1 _ rfl; refine blk_put (cs := #[.int .i64 a2_0, .int .i64 a2_1]) ?_ 0 _ rfl; refine blk_far ?_ NB197_215.out _; refine blk_far ?_ NB197_215.out _; exact zK) hb); replace BK215 := zA (blk_below (g := gb215) (o := .cells #[.int .i64 t212, .int .i64 t213] 27 (0, 0)) (by refine blk_far ?_ NB215_197.out _; refine blk_far ?_ NB215_197.out _; refine blk_put (cs := #[.int .i64 t212, .int .i64 0]) ?_ 1 _ rfl; refine blk_put (cs := #[.int .i64 0, .int .i64 0]) ?_ 0 _ rfl; exact zK) hb); replace HB := zA (below_step zB hb); (try clear hb); (try clear hb2); (try clear hk); (try clear hi); have q40 : ((ji26) : Int) ≤ ((l0.length : Int) : Int) := zD; obtain ⟨i040, hi040, _, hsz40, _⟩ := info_parts info89; have hroom40 : l0.length ≤ c0 := HC0.out; have hC40 : Kd.C k89 _ (some ad211) l0.length l0 := HR0.out; have q040 : (0 : Int) ≤ ((ji26) : Int) := zD; have hcut40 := cut_from (P := Try.prog) 30 89 .i64 Try.underlying30 hi040 3 hsz40 (some ad211) l0.length c0 (ji26) q040 q40; have hr40 := Kd.C_drop (m := ((ji26) : Int).toNat) (c := c0) hC40 (by omega) hroom40; obtain ⟨A40, hA40⟩ : ∃ A1, A1 = (if c0 = ((ji26) : Int).toNat then (some ad211) else ((some ad211) : Option Addr).map (·.add (((ji26) : Int).toNat * 3))) := ⟨_, rfl⟩; obtain ⟨c40, hc40⟩ : ∃ c1, c1 = c0 - ((ji26) : Int).toNat := ⟨_, rfl⟩; have hy40 : y217.length = l0.length - ((ji26) : Int).toNat := (by rw [Ny217.out, List.length_drop] <;> omega); rw [show (l0).drop ((ji26) : Int).toNat = y217 from Ny217.out.symm] at hr40; replace hr40 : Kd.C k89 _ A40 y217.length y217 := (by rw [hA40]; exact hr40); rw [← hy40, ← hA40, ← hc40] at hcut40; have HR220 := zA hr40; have HC220 := zA (show y217.length ≤ c40 from by rw [hy40, hc40]; exact Nat.sub_le_sub_right hroom40 _); clear hr40 hC40 hroom40 hi040 hsz40 hc40; have KY40 := zA hy40; have KA40 := zA hA40; clear hy40 hA40; replace q40 := eq_true q40) | ((with_reducible refine gate_builtin (b := .append) (xs := #[.tmp 69, .tmp 72]) rfl ?_); at_builtin; refine Kd.R_append_rows k89 (w0 := w) w.heap.size rfl (.tmp 69) (.tmp 72) 30 89 (.agg #[(.string ⟨#[]⟩), (.int .i64 0), (.int .i64 0)]) 32 rfl Try.underlying30 info89 rfl (by decide) (by omega) v208 y207 y217 _ _ _ (fun _ => True) (fun _ => False) rfl rfl ?aO ?aR (fun _ _ h => h) (fun _ h => h.elim) ?aF ?aB ?aS ?aL ?_; (case aR => repeat (exact (Kd.C_below HR220.out HB.out))); (case aB => exact zB); (case aF => exact (fun _ _ => trivial)); (case aO => exact zR); (case aS => exact (below_size zB)); (case aL => have := LMc29.out; omega); intro v222 w41 ho hb hg hat; rw [← Ny221.out] at ho; have HO223 := zA (ho); replace BK197 := zA (blk_grown (g := gb197) (o := .cells #[.int .i64 t212, .int .i64 t213] 27 (0, 0)) zK hg (Kd.R_ne HO_9.out BK197.out (by decide))); replace BK215 := zA (blk_grown (g := gb215) (o := .cells #[.int .i64 t212, .int .i64 t213] 27 (0, 0)) zK hg (Kd.R_ne HO_9.out BK215.out (by decide))); replace HB := zA (hb); clear HO_9; clear ho hb hg hat))
                go_ret2
                exact ⟨_, by rfl, zR, zB⟩
               ·rw [if_neg c29] at H
                exact absurd H (by simp)
              ·rw [if_neg c28] at H
               exact absurd H (by simp)
             ·rw [if_neg c27] at H
              exact absurd H (by simp)
            ·replace c25 := Bool.eq_false_iff.mpr c25
             subst c25
             have H1 : (if y207.length < 4398046511104 then ((some (y207 ++ [(⟨a1, (⟨t212, t213⟩ : S27)⟩ : S89)] : List (S89))).bind fun y224 => (if 0 ≤ (wrap64 (x8_3 + 1)) then (if (wrap64 (x8_3 + 1)) ≤ (l0.length : Int) then ((some (l0.drop ((wrap64 (x8_3 + 1)) : Int).toNat : List (S89))).bind fun y227 => (if y224.length + y227.length < 4398046511104 then (some ((y224 ++ y227), true)) else (none))) else (none)) else (none))) else (none)) = some (r1, r2) := by rw [if_neg (show ¬ (false = true) by decide)] at H; exact H
             clear H
             have H := H1
             clear H1
             by_cases c42 : y207.length < 4398046511104
             ·rw [if_pos c42] at H
              have LMc42 := zA c42
              clear c42
              obtain ⟨y224, hy224⟩ : ∃ y_ : List (S89), y_ = (y207 ++ [(⟨a1, (⟨t212, t213⟩ : S27)⟩ : S89)]) := ⟨_, rfl⟩
              replace H : (if 0 ≤ (wrap64 (x8_3 + 1)) then (if (wrap64 (x8_3 + 1)) ≤ (l0.length : Int) then ((some (l0.drop ((wrap64 (x8_3 + 1)) : Int).toNat : List (S89))).bind fun y227 => (if y224.length + y227.length < 4398046511104 then (some ((y224 ++ y227), true)) else (none))) else (none)) else (none)) = some (r1, r2) := by (have H2_ := (Option.bind_some _ _).symm.trans H; rw [hy224]; with_reducible exact H2_)
              have Ny224 := zA hy224
              clear hy224
              obtain ⟨ji43, hji43⟩ : ∃ j_ : Int, (wrap64 (x8_3 + 1)) = j_ := ⟨_, rfl⟩
              try (have ej_ : ji43 = ji26 := hji43.symm.trans hji26; subst ej_)
              replace H : (if 0 ≤ (ji43) then (if (ji43) ≤ (l0.length : Int) then ((some (l0.drop ((ji43) : Int).toNat : List (S89))).bind fun y227 => (if y224.length + y227.length < 4398046511104 then (some ((y224 ++ y227), true)) else (none))) else (none)) else (none)) = some (r1, r2) := by (rw [hji43] at H; exact H)
              (try rw [hji43] at A22)
              (try rw [hji43] at A24)
              have hji43w : (IntKind.i64.wrap (x8_3 + 1)) = ji43 := (i64_w _).trans hji43
              by_cases c44 : 0 ≤ (ji43)
              ·rw [if_pos c44] at H
               have c44b0 := eq_true c44
               have c44b1 : decide (0 ≤ (ji43)) = true := decide_eq_true c44
               clear c44
               by_cases c45 : (ji43) ≤ (l0.length : Int)
               ·rw [if_pos c45] at H
                have c45b0 := eq_true c45
                have c45b1 : decide ((ji43) ≤ (l0.length : Int)) = true := decide_eq_true c45
                clear c45
                obtain ⟨y227, hy227⟩ : ∃ y_ : List (S89), y_ = (l0.drop ((ji43) : Int).toNat) := ⟨_, rfl⟩
                replace H : (if y224.length + y227.length < 4398046511104 then (some ((y224 ++ y227), true)) else (none)) = some (r1, r2) := by (have H2_ := (Option.bind_some _ _).symm.trans H; rw [hy227]; with_reducible exact H2_)
                have Ny227 := zA hy227
                clear hy227
                by_cases c46 : y224.length + y227.length < 4398046511104
                ·rw [if_pos c46] at H
                 have LMc46 := zA c46
                 clear c46
                 obtain ⟨y231, hy231⟩ : ∃ y_ : List (S89), y_ = (y224 ++ y227) := ⟨_, rfl⟩
                 replace H : (some (y231, true)) = some (r1, r2) := by (rw [hy231]; with_reducible exact H)
                 have Ny231 := zA hy231
                 clear hy231
                 simp only [Option.some.injEq, Prod.mk.injEq] at H
                 obtain ⟨rfl, rfl⟩ := H
                 try go_wp2
                 replace HO_9 := zA (Kd.R_drew HO_9.out)
                 replace BK197 := zA (blk_drew BK197.out)
                 replace HB := zA (below_drew1 HB.out)
                 have p211 : 0 ≤ (x8_3 : Int) := zD
                 have q211 : x8_3 < (l0.length : Int) := zD
                 obtain ⟨ad211, e211, hx211_0, hx211_1, hx211_2⟩ := at_T89 HR0.out x8_3 p211 q211
                 have hw211_2 := hx211_2
                 have hw211_1 := hx211_1
                 have hw211_0 := hx211_0
                 cases e211
                 replace hx211_0 := zH HB hx211_0
                 replace hx211_1 := zH HB hx211_1
                 replace hx211_2 := zH HB hx211_2
                 replace p211 := eq_true p211
                 replace q211 := eq_true q211
                 refine start_ (n := 13) (S := fun w' => w'.cell? ⟨gb197, 0, none⟩ = some (.int .i64 a2_0) ∧ w'.cell? ⟨gb197, 1, none⟩ = some (.int .i64 a2_1) ∧ w'.cell? (ad211.add ((x8_3).toNat * 3)) = some (.string ((rd_T89 l0 x8_3).f0)) ∧ w'.cell? ⟨(ad211.add ((x8_3).toNat * 3)).block, (ad211.add ((x8_3).toNat * 3)).off + 1, none⟩ = some (.int .i64 ((rd_T89 l0 x8_3).f1.f0)) ∧ w'.cell? ⟨(ad211.add ((x8_3).toNat * 3)).block, (ad211.add ((x8_3).toNat * 3)).off + 2, none⟩ = some (.int .i64 ((rd_T89 l0 x8_3).f1.f1))) (ds := []) #[false, false, false, false, false, false, false, false, false, false, false, false, false] (by kernel_rfl) rfl rfl ⟨(blk_cell BK197.out 0).trans rfl, (blk_cell BK197.out 1).trans rfl, (zH HB hw211_0 :), (zH HB hw211_1 :), (zH HB hw211_2 :)⟩ (fun hHeld => ?_); refine with_tabW spec_l01Put.tab6 spec_l01Put.bits6 (fun HT_ HW_ => ?_)
                 generalize wc.drew = w47 at HO_9 BK197 HB hx211_0 hx211_1 hx211_2 hHeld ⊢
                 refine zP 0 (N := some 46) (h := ?_)
                 refine zP 1 (N := some 47) (h := ?_)
                 refine zP 2 (N := some 48) (h := ?_)
                 refine zP 3 (N := some 49) (h := ?_)
                 refine zT 4 hHeld (N := some 50) (h := ?_)
                 refine zT 5 hHeld (N := some 51) (h := ?_)
                 refine join_ (σ := Nat) 2 #[true, true, true, true, true, true, true, true, true, true, true, false, false] (fun s_ => [(52, .tuple #[.agg #[.int .i64 t212, .int .i64 t213], .bool true]), (10, .pointer (some ⟨s_, 0, none⟩)), (45, .tuple #[.agg #[.int .i64 t212, .int .i64 t213], .bool true]), (53, .agg #[.int .i64 t212, .int .i64 t213]), (54, .bool true)]) (fun s_ w' => (w'.cell? ⟨gb197, 0, none⟩ = some (.int .i64 a2_0) ∧ w'.cell? ⟨gb197, 1, none⟩ = some (.int .i64 a2_1) ∧ w'.cell? (ad211.add ((x8_3).toNat * 3)) = some (.string ((rd_T89 l0 x8_3).f0)) ∧ w'.cell? ⟨(ad211.add ((x8_3).toNat * 3)).block, (ad211.add ((x8_3).toNat * 3)).off + 1, none⟩ = some (.int .i64 ((rd_T89 l0 x8_3).f1.f0)) ∧ w'.cell? ⟨(ad211.add ((x8_3).toNat * 3)).block, (ad211.add ((x8_3).toNat * 3)).off + 2, none⟩ = some (.int .i64 ((rd_T89 l0 x8_3).f1.f1))) ∧ (Kd.R k89 89 w' w.heap.size (fun _ => True) v208 y207) ∧ (w'.heap[gb197]? = some (.cells #[.int .i64 a2_0, .int .i64 a2_1] 27 (0, 0))) ∧ (w'.heap[s_]? = some (.cells #[.int .i64 0, .int .i64 0] 27 (0, 0))) ∧ (w.heap.size ≤ s_) ∧ (w.heap.size ≤ s_) ∧ (gb197 ≠ s_) ∧ (s_ ≠ gb197) ∧ (Below w.heap.size w w')) ?_ ?_
                 rotate_left
                 ·intro hCont
                  refine two_ (i := 6) (j := 10) (Ni := some 52) (Nj := some 10) #[true, true, true, true, true, true, true, false, false, false, false, false, false] #[true, true, true, true, true, true, false, false, false, false, true, false, false] rfl rfl rfl rfl (two_of HT_.out (by kernel_rfl)) (by decide) (by decide) (fun K hK => ?_) (fun K hK => ?_)
                  ·skip
                   refine goes_ Try.func109 (by kernel_rfl) rfl #[.agg #[.int .i64 ((rd_T89 l0 x8_3).f1.f0), .int .i64 ((rd_T89 l0 x8_3).f1.f1)], .agg #[.int .i64 a2_0, .int .i64 a2_1]] (by rfl) rfl rfl zM ?_
                   with_reducible refine (spec_l01Plus.calls kj12 ((rd_T89 l0 x8_3).f1.f0) ((rd_T89 l0 x8_3).f1.f1) a2_0 a2_1 t212 t213 true _ A22.out).mono ?_
                   rintro e w48 ⟨rfl, hb⟩
                   refine ⟨_, rfl, ?_⟩
                   replace HO_9 := zA (Kd.R_below HO_9.out hb)
                   replace BK197 := zA (zW BK197 hb)
                   replace HB := zA (below_step zB hb)
                   (try clear hb)
                   (try clear hb2)
                   (try clear hk)
                   (try clear hi)
                   refine hK.out _ _ ⟨(blk_cell BK197.out 0).trans rfl, (blk_cell BK197.out 1).trans rfl, (zH HB hw211_0 :), (zH HB hw211_1 :), (zH HB hw211_2 :)⟩ (fun hHeld => ?_)
                   clear hK K
                   refine norm_ (a' := ?_) ?_ ?_
                   rotate_left
                   ·show Act.put _ (some 52) _ = _
                    simp only [Act.put, List.setIfInBounds_toArray, List.set, i64_w, i32_w]
                    rfl
                   refine zP 7 (N := some 45) (h := ?_)
                   refine zP 8 (N := some 53) (h := ?_)
                   refine zP 9 (N := some 54) (h := ?_)
                   refine one_ (i := 10) (N := some 10) #[true, true, true, true, true, true, true, true, true, true, true, false, false] rfl rfl (one_of HT_.out (by kernel_rfl)) (by decide) (fun K hK => ?_)
                   refine box_step ?hg (N := 10) ?hd (cs := #[.int .i64 0, .int .i64 0]) (t := 27) ?hr ?_; (case hd => rfl); (case hg => rfl); (case hr => (go_simp; done))
                   intro gb215 hg w49 hbox hb
                   have BK215 := zA (hbox)
                   have GW215 := zA (zG : w.heap.size ≤ gb215)
                   have GE215 := zA (zG : w.heap.size ≤ gb215)
                   have NB197_215 := zA (zU BK197 hg)
                   have NB215_197 := zA (zV BK197 hg)
                   replace HO_9 := zA (Kd.R_below HO_9.out hb)
                   replace BK197 := zA (zW BK197 hb)
                   replace HB := zA (below_step zB hb)
                   clear hb hbox hg
                   refine hK.out _ _ ⟨(blk_cell BK197.out 0).trans rfl, (blk_cell BK197.out 1).trans rfl, (zH HB hw211_0 :), (zH HB hw211_1 :), (zH HB hw211_2 :)⟩ (fun hHeld => ?_)
                   clear hK K
                   refine norm_ (a' := ?_) ?_ ?_
                   rotate_left
                   ·show Act.put _ (some 10) _ = _
                    simp only [Act.put, List.setIfInBounds_toArray, List.set, i64_w, i32_w]
                    rfl
                   exact norm_ (by simp only [putAll, Act.put, List.setIfInBounds_toArray, List.set]) (hCont (gb215) _ ⟨hHeld, zR, zK, zK, GW215.out, GE215.out, NB197_215.out, NB215_197.out, zB⟩)
                  ·skip
                   refine box_step ?hg (N := 10) ?hd (cs := #[.int .i64 0, .int .i64 0]) (t := 27) ?hr ?_; (case hd => rfl); (case hg => rfl); (case hr => (go_simp; done))
                   intro gb215 hg w48 hbox hb
                   have BK215 := zA (hbox)
                   have GW215 := zA (zG : w.heap.size ≤ gb215)
                   have GE215 := zA (zG : w.heap.size ≤ gb215)
                   have NB197_215 := zA (zU BK197 hg)
                   have NB215_197 := zA (zV BK197 hg)
                   replace HO_9 := zA (Kd.R_below HO_9.out hb)
                   replace BK197 := zA (zW BK197 hb)
                   replace HB := zA (below_step zB hb)
                   clear hb hbox hg
                   refine hK.out _ _ ⟨(blk_cell BK197.out 0).trans rfl, (blk_cell BK197.out 1).trans rfl, (zH HB hw211_0 :), (zH HB hw211_1 :), (zH HB hw211_2 :)⟩ (fun hHeld => ?_)
                   clear hK K
                   refine norm_ (a' := ?_) ?_ ?_
                   rotate_left
                   ·show Act.put _ (some 10) _ = _
                    simp only [Act.put, List.setIfInBounds_toArray, List.set, i64_w, i32_w]
                    rfl
                   refine one_ (i := 6) (N := some 52) #[true, true, true, true, true, true, true, false, false, false, true, false, false] rfl rfl (one_of HT_.out (by kernel_rfl)) (by decide) (fun K hK => ?_)
                   refine goes_ Try.func109 (by kernel_rfl) rfl #[.agg #[.int .i64 ((rd_T89 l0 x8_3).f1.f0), .int .i64 ((rd_T89 l0 x8_3).f1.f1)], .agg #[.int .i64 a2_0, .int .i64 a2_1]] (by rfl) rfl rfl zM ?_
                   with_reducible refine (spec_l01Plus.calls kj12 ((rd_T89 l0 x8_3).f1.f0) ((rd_T89 l0 x8_3).f1.f1) a2_0 a2_1 t212 t213 true _ A22.out).mono ?_
                   rintro e w49 ⟨rfl, hb⟩
                   refine ⟨_, rfl, ?_⟩
                   replace HO_9 := zA (Kd.R_below HO_9.out hb)
                   replace BK197 := zA (zW BK197 hb)
                   replace BK215 := zA (zW BK215 hb)
                   replace HB := zA (below_step zB hb)
                   (try clear hb)
                   (try clear hb2)
                   (try clear hk)
                   (try clear hi)
                   refine hK.out _ _ ⟨(blk_cell BK197.out 0).trans rfl, (blk_cell BK197.out 1).trans rfl, (zH HB hw211_0 :), (zH HB hw211_1 :), (zH HB hw211_2 :)⟩ (fun hHeld => ?_)
                   clear hK K
                   refine norm_ (a' := ?_) ?_ ?_
                   rotate_left
                   ·show Act.put _ (some 52) _ = _
                    simp only [Act.put, List.setIfInBounds_toArray, List.set, i64_w, i32_w]
                    rfl
                   refine zP 7 (N := some 45) (h := ?_)
                   refine zP 8 (N := some 53) (h := ?_)
                   refine zP 9 (N := some 54) (h := ?_)
                   exact norm_ (by simp only [putAll, Act.put, List.setIfInBounds_toArray, List.set]) (hCont (gb215) _ ⟨hHeld, zR, zK, zK, GW215.out, GE215.out, NB197_215.out, NB215_197.out, zB⟩)
                 rintro gb215 w50 ⟨hS_, h0_, h1_, h2_, h3_, h4_, h5_, h6_, h7_⟩
                 have BK215 : Aside0 (w50.heap[gb215]? = some (.cells #[.int .i64 0, .int .i64 0] 27 (0, 0))) := ⟨h2_⟩
                 have GW215 : Aside0 (w.heap.size ≤ gb215) := ⟨h3_⟩
                 have GE215 : Aside0 (w.heap.size ≤ gb215) := ⟨h4_⟩
                 have NB197_215 : Aside0 (gb197 ≠ gb215) := ⟨h5_⟩
                 have NB215_197 : Aside0 (gb215 ≠ gb197) := ⟨h6_⟩
                 replace HO_9 : Aside0 (Kd.R k89 89 w50 w.heap.size (fun _ => True) v208 y207) := ⟨h0_⟩
                 replace BK197 : Aside0 (w50.heap[gb197]? = some (.cells #[.int .i64 a2_0, .int .i64 a2_1] 27 (0, 0))) := ⟨h1_⟩
                 replace HB : Aside0 (Below w.heap.size w w50) := ⟨h7_⟩
                 clear h0_ h1_ h2_ h3_ h4_ h5_ h6_ h7_
                 have hHeld : w50.cell? ⟨gb197, 0, none⟩ = some (.int .i64 a2_0) ∧ w50.cell? ⟨gb197, 1, none⟩ = some (.int .i64 a2_1) ∧ w50.cell? (ad211.add ((x8_3).toNat * 3)) = some (.string ((rd_T89 l0 x8_3).f0)) ∧ w50.cell? ⟨(ad211.add ((x8_3).toNat * 3)).block, (ad211.add ((x8_3).toNat * 3)).off + 1, none⟩ = some (.int .i64 ((rd_T89 l0 x8_3).f1.f0)) ∧ w50.cell? ⟨(ad211.add ((x8_3).toNat * 3)).block, (ad211.add ((x8_3).toNat * 3)).off + 2, none⟩ = some (.int .i64 ((rd_T89 l0 x8_3).f1.f1)) := hS_
                 refine norm_ (a' := ?_) ?_ ?_
                 rotate_left
                 ·simp only [putAll, Act.put, List.setIfInBounds_toArray, List.set]
                  rfl
                 refine one_ (i := 11) (N := none) #[true, true, true, true, true, true, true, true, true, true, true, true, false] rfl rfl (one_of HT_.out (by kernel_rfl)) (by decide) (fun K hK => ?_)
                 have hs51 : w50.cell? ⟨gb215, 0, none⟩ = some (.int .i64 0) := (blk_cell BK215.out 0).trans rfl
                 have hfs51 := blk_frozen BK215.out 0
                 have hns51_0 := NB197_215.out
                 have hms51_0 := NB215_197.out
                 have hs52 : w50.cell? ⟨gb215, 1, none⟩ = some (.int .i64 0) := (blk_cell BK215.out 1).trans rfl
                 have hfs52 := blk_frozen BK215.out 1
                 have hns52_0 := NB197_215.out
                 have hms52_0 := NB215_197.out
                 refine skip_ (w1 := ?_) (by rfl) rfl ?_ ?_
                 rotate_left
                 ·go_simp
                  rfl
                 refine hK.out _ _ ⟨((cell_far (p := ⟨gb215, _, none⟩) NB197_215.out _).trans (((cell_far (p := ⟨gb215, _, none⟩) NB197_215.out _).trans (hHeld.1)))), ((cell_far (p := ⟨gb215, _, none⟩) NB197_215.out _).trans (((cell_far (p := ⟨gb215, _, none⟩) NB197_215.out _).trans (hHeld.2.1)))), ((cell_far (p := ⟨gb215, _, none⟩) (by exact Nat.ne_of_lt (Nat.lt_of_lt_of_le (by have := World.block_lt_of_cell? _ _ hw211_0; exact this) GW215.out)) _).trans (((cell_far (p := ⟨gb215, _, none⟩) (by exact Nat.ne_of_lt (Nat.lt_of_lt_of_le (by have := World.block_lt_of_cell? _ _ hw211_0; exact this) GW215.out)) _).trans (hHeld.2.2.1)))), ((cell_far (p := ⟨gb215, _, none⟩) (by exact Nat.ne_of_lt (Nat.lt_of_lt_of_le (by have := World.block_lt_of_cell? _ _ hw211_1; exact this) GW215.out)) _).trans (((cell_far (p := ⟨gb215, _, none⟩) (by exact Nat.ne_of_lt (Nat.lt_of_lt_of_le (by have := World.block_lt_of_cell? _ _ hw211_1; exact this) GW215.out)) _).trans (hHeld.2.2.2.1)))), ((cell_far (p := ⟨gb215, _, none⟩) (by exact Nat.ne_of_lt (Nat.lt_of_lt_of_le (by have := World.block_lt_of_cell? _ _ hw211_2; exact this) GW215.out)) _).trans (((cell_far (p := ⟨gb215, _, none⟩) (by exact Nat.ne_of_lt (Nat.lt_of_lt_of_le (by have := World.block_lt_of_cell? _ _ hw211_2; exact this) GW215.out)) _).trans (hHeld.2.2.2.2))))⟩ (fun hHeld => ?_)
                 clear hK K
                 refine zP 12 (N := some 11) (h := ?_)
                 refine done_ (done_of HT_.out (by kernel_rfl)) ?_
                 have hnb53 := NB215_197.out
                 have hnc53 := NB197_215.out
                 obtain ⟨hcz54_0, hcz54_1, hfz54_0, hfz54_1⟩ := zC2 BK215
                 obtain ⟨hcz55_0, hcz55_1, hfz55_0, hfz55_1⟩ := zC2 BK197
                 try go_wp2_with (first | ((with_reducible refine gate_callee (f := 104) rfl ?_); refine goesL_ (some 61) rfl rfl Try.func104 (by kernel_rfl) rfl #[.agg #[.int .i64 t212, .int .i64 t213]] rfl zM ?_; (with_reducible refine (spec_l01Zero.calls t212 t213 false _ A24.out).mono ?_); rintro e w56 ⟨rfl, hb⟩; refine ⟨_, rfl, ?_⟩; replace HO_9 := zA (Kd.R_below (by exact (Kd.R_mono (Kd.R_mono (Kd.R_far (p := ⟨gb197, 1, none⟩) (Kd.R_far (p := ⟨gb197, 0, none⟩) (Kd.R_far (p := ⟨gb215, 1, none⟩) (Kd.R_far (p := ⟨gb215, 0, none⟩) (Kd.R_types (Kd.R_types HO_9.out BK215.out (by decide)) BK197.out (by decide)) (fun _ hk => hk.1.2) (.int .i64 t212)) (fun _ hk => hk.1.2) (.int .i64 t213)) (fun _ hk => hk.2) (.int .i64 t212)) (fun _ hk => hk.2) (.int .i64 t213)) (fun _ h_ => h_.1)) (fun _ h_ => h_.1))) hb); replace BK197 := zA (blk_below (g := gb197) (o := .cells #[.int .i64 t212, .int .i64 t213] 27 (0, 0)) (by refine blk_put (cs := #[.int .i64 t212, .int .i64 a2_1]) ?_ 1 _ rfl; refine blk_put (cs := #[.int .i64 a2_0, .int .i64 a2_1]) ?_ 0 _ rfl; refine blk_far ?_ NB197_215.out _; refine blk_far ?_ NB197_215.out _; exact zK) hb); replace BK215 := zA (blk_below (g := gb215) (o := .cells #[.int .i64 t212, .int .i64 t213] 27 (0, 0)) (by refine blk_far ?_ NB215_197.out _; refine blk_far ?_ NB215_197.out _; refine blk_put (cs := #[.int .i64 t212, .int .i64 0]) ?_ 1 _ rfl; refine blk_put (cs := #[.int .i64 0, .int .i64 0]) ?_ 0 _ rfl; exact zK) hb); replace HB := zA (below_step zB hb); (try clear hb); (try clear hb2); (try clear hk); (try clear hi); obtain ⟨hcz57_0, hcz57_1, hfz57_0, hfz57_1⟩ := zC2 BK197) | ((with_reducible refine gate_builtin (b := .append) (xs := #[.tmp 63, .tmp 67]) rfl ?_); at_builtin; refine Kd.R_append k89 (w0 := w) w.heap.size rfl (.tmp 63) (.tmp 67) 30 89 (.agg #[(.string ⟨#[]⟩), (.int .i64 0), (.int .i64 0)]) 32 rfl Try.underlying30 info89 rfl (by decide) (by omega) v208 y207 (⟨a1, (⟨t212, t213⟩ : S27)⟩ : S89) [.string a1, .int .i64 t212, .int .i64 t213] (fun _ => True) (fun _ => False) rfl rfl ?aP (fun _ hk => hk.elim) ?aF ?aO ?aB ?aS ?aL ?_; (case aP => exact k89_mkM _ _ _ (⟨a1, (⟨t212, t213⟩ : S27)⟩ : S89)); (case aB => exact zB); (case aF => exact (fun _ _ => trivial)); (case aO => exact zR); (case aS => exact (below_size zB)); (case aL => have := LMc42.out; omega); intro v225 w58 ho hb hg hat; rw [← Ny224.out] at ho; have HO226 := zA (ho); replace BK197 := zA (blk_grown (g := gb197) (o := .cells #[.int .i64 t212, .int .i64 t213] 27 (0, 0)) zK hg (Kd.R_ne HO_9.out BK197.out (by decide))); replace BK215 := zA (blk_grown (g := gb215) (o := .cells #[.int .i64 t212, .int .i64 t213] 27 (0, 0)) zK hg (Kd.R_ne HO_9.out BK215.out (by decide))); replace HB := zA (hb); clear HO_9; clear ho hb hg hat; have q59 : ((ji43) : Int) ≤ ((l0.length : Int) : Int) := zD; obtain ⟨i059, hi059, _, hsz59, _⟩ := info_parts info89; have hroom59 : l0.length ≤ c0 := HC0.out; have hC59 : Kd.C k89 _ (some ad211) l0.length l0 := HR0.out; have q059 : (0 : Int) ≤ ((ji43) : Int) := zD; have hcut59 := cut_from (P := Try.prog) 30 89 .i64 Try.underlying30 hi059 3 hsz59 (some ad211) l0.length c0 (ji43) q059 q59; have hr59 := Kd.C_drop (m := ((ji43) : Int).toNat) (c := c0) hC59 (by omega) hroom59; obtain ⟨A59, hA59⟩ : ∃ A1, A1 = (if c0 = ((ji43) : Int).toNat then (some ad211) else ((some ad211) : Option Addr).map (·.add (((ji43) : Int).toNat * 3))) := ⟨_, rfl⟩; obtain ⟨c59, hc59⟩ : ∃ c1, c1 = c0 - ((ji43) : Int).toNat := ⟨_, rfl⟩; have hy59 : y227.length = l0.length - ((ji43) : Int).toNat := (by rw [Ny227.out, List.length_drop] <;> omega); rw [show (l0).drop ((ji43) : Int).toNat = y227 from Ny227.out.symm] at hr59; replace hr59 : Kd.C k89 _ A59 y227.length y227 := (by rw [hA59]; exact hr59); rw [← hy59, ← hA59, ← hc59] at hcut59; have HR230 := zA hr59; have HC230 := zA (show y227.length ≤ c59 from by rw [hy59, hc59]; exact Nat.sub_le_sub_right hroom59 _); clear hr59 hC59 hroom59 hi059 hsz59 hc59; have KY59 := zA hy59; have KA59 := zA hA59; clear hy59 hA59; replace q59 := eq_true q59) | ((with_reducible refine gate_builtin (b := .append) (xs := #[.tmp 69, .tmp 72]) rfl ?_); at_builtin; refine Kd.R_append_rows k89 (w0 := w) w.heap.size rfl (.tmp 69) (.tmp 72) 30 89 (.agg #[(.string ⟨#[]⟩), (.int .i64 0), (.int .i64 0)]) 32 rfl Try.underlying30 info89 rfl (by decide) (by omega) v225 y224 y227 _ _ _ (fun _ => True) (fun _ => False) rfl rfl ?aO ?aR (fun _ _ h => h) (fun _ h => h.elim) ?aF ?aB ?aS ?aL ?_; (case aR => repeat (exact (Kd.C_below HR230.out HB.out))); (case aB => exact zB); (case aF => exact (fun _ _ => trivial)); (case aO => exact zR); (case aS => exact (below_size zB)); (case aL => have := LMc46.out; omega); intro v232 w60 ho hb hg hat; rw [← Ny231.out] at ho; have HO233 := zA (ho); replace BK197 := zA (blk_grown (g := gb197) (o := .cells #[.int .i64 t212, .int .i64 t213] 27 (0, 0)) zK hg (Kd.R_ne HO226.out BK197.out (by decide))); replace BK215 := zA (blk_grown (g := gb215) (o := .cells #[.int .i64 t212, .int .i64 t213] 27 (0, 0)) zK hg (Kd.R_ne HO226.out BK215.out (by decide))); replace HB := zA (hb); clear HO226; clear ho hb hg hat))
                 go_ret2
                 exact ⟨_, by rfl, zR, zB⟩
                ·rw [if_neg c46] at H
                 exact absurd H (by simp)
               ·rw [if_neg c45] at H
                exact absurd H (by simp)
              ·rw [if_neg c44] at H
               exact absurd H (by simp)
             ·rw [if_neg c42] at H
              exact absurd H (by simp)
           ·replace c23 := Bool.eq_false_iff.mpr c23
            subst c23
            have H1 : (some (([] : List (S89)), false)) = some (r1, r2) := by rw [if_neg (show ¬ (false = true) by decide)] at H; exact H
            clear H
            have H := H1
            clear H1
            simp only [Option.some.injEq, Prod.mk.injEq] at H
            obtain ⟨rfl, rfl⟩ := H
            try go_wp2
            replace HO_9 := zA (Kd.R_drew HO_9.out)
            replace BK197 := zA (blk_drew BK197.out)
            replace HB := zA (below_drew1 HB.out)
            have p211 : 0 ≤ (x8_3 : Int) := zD
            have q211 : x8_3 < (l0.length : Int) := zD
            obtain ⟨ad211, e211, hx211_0, hx211_1, hx211_2⟩ := at_T89 HR0.out x8_3 p211 q211
            have hw211_2 := hx211_2
            have hw211_1 := hx211_1
            have hw211_0 := hx211_0
            cases e211
            replace hx211_0 := zH HB hx211_0
            replace hx211_1 := zH HB hx211_1
            replace hx211_2 := zH HB hx211_2
            replace p211 := eq_true p211
            replace q211 := eq_true q211
            refine start_ (n := 13) (S := fun w' => w'.cell? ⟨gb197, 0, none⟩ = some (.int .i64 a2_0) ∧ w'.cell? ⟨gb197, 1, none⟩ = some (.int .i64 a2_1) ∧ w'.cell? (ad211.add ((x8_3).toNat * 3)) = some (.string ((rd_T89 l0 x8_3).f0)) ∧ w'.cell? ⟨(ad211.add ((x8_3).toNat * 3)).block, (ad211.add ((x8_3).toNat * 3)).off + 1, none⟩ = some (.int .i64 ((rd_T89 l0 x8_3).f1.f0)) ∧ w'.cell? ⟨(ad211.add ((x8_3).toNat * 3)).block, (ad211.add ((x8_3).toNat * 3)).off + 2, none⟩ = some (.int .i64 ((rd_T89 l0 x8_3).f1.f1))) (ds := []) #[false, false, false, false, false, false, false, false, false, false, false, false, false] (by kernel_rfl) rfl rfl ⟨(blk_cell BK197.out 0).trans rfl, (blk_cell BK197.out 1).trans rfl, (zH HB hw211_0 :), (zH HB hw211_1 :), (zH HB hw211_2 :)⟩ (fun hHeld => ?_); refine with_tabW spec_l01Put.tab6 spec_l01Put.bits6 (fun HT_ HW_ => ?_)
            generalize wc.drew = w61 at HO_9 BK197 HB hx211_0 hx211_1 hx211_2 hHeld ⊢
            refine zP 0 (N := some 46) (h := ?_)
            refine zP 1 (N := some 47) (h := ?_)
            refine zP 2 (N := some 48) (h := ?_)
            refine zP 3 (N := some 49) (h := ?_)
            refine zT 4 hHeld (N := some 50) (h := ?_)
            refine zT 5 hHeld (N := some 51) (h := ?_)
            refine join_ (σ := Nat) 2 #[true, true, true, true, true, true, true, true, true, true, true, false, false] (fun s_ => [(52, .tuple #[.agg #[.int .i64 t212, .int .i64 t213], .bool false]), (10, .pointer (some ⟨s_, 0, none⟩)), (45, .tuple #[.agg #[.int .i64 t212, .int .i64 t213], .bool false]), (53, .agg #[.int .i64 t212, .int .i64 t213]), (54, .bool false)]) (fun s_ w' => (w'.cell? ⟨gb197, 0, none⟩ = some (.int .i64 a2_0) ∧ w'.cell? ⟨gb197, 1, none⟩ = some (.int .i64 a2_1) ∧ w'.cell? (ad211.add ((x8_3).toNat * 3)) = some (.string ((rd_T89 l0 x8_3).f0)) ∧ w'.cell? ⟨(ad211.add ((x8_3).toNat * 3)).block, (ad211.add ((x8_3).toNat * 3)).off + 1, none⟩ = some (.int .i64 ((rd_T89 l0 x8_3).f1.f0)) ∧ w'.cell? ⟨(ad211.add ((x8_3).toNat * 3)).block, (ad211.add ((x8_3).toNat * 3)).off + 2, none⟩ = some (.int .i64 ((rd_T89 l0 x8_3).f1.f1))) ∧ (Kd.R k89 89 w' w.heap.size (fun _ => True) v208 y207) ∧ (w'.heap[gb197]? = some (.cells #[.int .i64 a2_0, .int .i64 a2_1] 27 (0, 0))) ∧ (w'.heap[s_]? = some (.cells #[.int .i64 0, .int .i64 0] 27 (0, 0))) ∧ (w.heap.size ≤ s_) ∧ (w.heap.size ≤ s_) ∧ (gb197 ≠ s_) ∧ (s_ ≠ gb197) ∧ (Below w.heap.size w w')) ?_ ?_
            rotate_left
            ·intro hCont
             refine two_ (i := 6) (j := 10) (Ni := some 52) (Nj := some 10) #[true, true, true, true, true, true, true, false, false, false, false, false, false] #[true, true, true, true, true, true, false, false, false, false, true, false, false] rfl rfl rfl rfl (two_of HT_.out (by kernel_rfl)) (by decide) (by decide) (fun K hK => ?_) (fun K hK => ?_)
             ·skip
              refine goes_ Try.func109 (by kernel_rfl) rfl #[.agg #[.int .i64 ((rd_T89 l0 x8_3).f1.f0), .int .i64 ((rd_T89 l0 x8_3).f1.f1)], .agg #[.int .i64 a2_0, .int .i64 a2_1]] (by rfl) rfl rfl zM ?_
              with_reducible refine (spec_l01Plus.calls kj12 ((rd_T89 l0 x8_3).f1.f0) ((rd_T89 l0 x8_3).f1.f1) a2_0 a2_1 t212 t213 false _ A22.out).mono ?_
              rintro e w62 ⟨rfl, hb⟩
              refine ⟨_, rfl, ?_⟩
              replace HO_9 := zA (Kd.R_below HO_9.out hb)
              replace BK197 := zA (zW BK197 hb)
              replace HB := zA (below_step zB hb)
              (try clear hb)
              (try clear hb2)
              (try clear hk)
              (try clear hi)
              refine hK.out _ _ ⟨(blk_cell BK197.out 0).trans rfl, (blk_cell BK197.out 1).trans rfl, (zH HB hw211_0 :), (zH HB hw211_1 :), (zH HB hw211_2 :)⟩ (fun hHeld => ?_)
              clear hK K
              refine norm_ (a' := ?_) ?_ ?_
              rotate_left
              ·show Act.put _ (some 52) _ = _
               simp only [Act.put, List.setIfInBounds_toArray, List.set, i64_w, i32_w]
               rfl
              refine zP 7 (N := some 45) (h := ?_)
              refine zP 8 (N := some 53) (h := ?_)
              refine zP 9 (N := some 54) (h := ?_)
              refine one_ (i := 10) (N := some 10) #[true, true, true, true, true, true, true, true, true, true, true, false, false] rfl rfl (one_of HT_.out (by kernel_rfl)) (by decide) (fun K hK => ?_)
              refine box_step ?hg (N := 10) ?hd (cs := #[.int .i64 0, .int .i64 0]) (t := 27) ?hr ?_; (case hd => rfl); (case hg => rfl); (case hr => (go_simp; done))
              intro gb215 hg w63 hbox hb
              have BK215 := zA (hbox)
              have GW215 := zA (zG : w.heap.size ≤ gb215)
              have GE215 := zA (zG : w.heap.size ≤ gb215)
              have NB197_215 := zA (zU BK197 hg)
              have NB215_197 := zA (zV BK197 hg)
              replace HO_9 := zA (Kd.R_below HO_9.out hb)
              replace BK197 := zA (zW BK197 hb)
              replace HB := zA (below_step zB hb)
              clear hb hbox hg
              refine hK.out _ _ ⟨(blk_cell BK197.out 0).trans rfl, (blk_cell BK197.out 1).trans rfl, (zH HB hw211_0 :), (zH HB hw211_1 :), (zH HB hw211_2 :)⟩ (fun hHeld => ?_)
              clear hK K
              refine norm_ (a' := ?_) ?_ ?_
              rotate_left
              ·show Act.put _ (some 10) _ = _
               simp only [Act.put, List.setIfInBounds_toArray, List.set, i64_w, i32_w]
               rfl
              exact norm_ (by simp only [putAll, Act.put, List.setIfInBounds_toArray, List.set]) (hCont (gb215) _ ⟨hHeld, zR, zK, zK, GW215.out, GE215.out, NB197_215.out, NB215_197.out, zB⟩)
             ·skip
              refine box_step ?hg (N := 10) ?hd (cs := #[.int .i64 0, .int .i64 0]) (t := 27) ?hr ?_; (case hd => rfl); (case hg => rfl); (case hr => (go_simp; done))
              intro gb215 hg w62 hbox hb
              have BK215 := zA (hbox)
              have GW215 := zA (zG : w.heap.size ≤ gb215)
              have GE215 := zA (zG : w.heap.size ≤ gb215)
              have NB197_215 := zA (zU BK197 hg)
              have NB215_197 := zA (zV BK197 hg)
              replace HO_9 := zA (Kd.R_below HO_9.out hb)
              replace BK197 := zA (zW BK197 hb)
              replace HB := zA (below_step zB hb)
              clear hb hbox hg
              refine hK.out _ _ ⟨(blk_cell BK197.out 0).trans rfl, (blk_cell BK197.out 1).trans rfl, (zH HB hw211_0 :), (zH HB hw211_1 :), (zH HB hw211_2 :)⟩ (fun hHeld => ?_)
              clear hK K
              refine norm_ (a' := ?_) ?_ ?_
              rotate_left
              ·show Act.put _ (some 10) _ = _
               simp only [Act.put, List.setIfInBounds_toArray, List.set, i64_w, i32_w]
               rfl
              refine one_ (i := 6) (N := some 52) #[true, true, true, true, true, true, true, false, false, false, true, false, false] rfl rfl (one_of HT_.out (by kernel_rfl)) (by decide) (fun K hK => ?_)
              refine goes_ Try.func109 (by kernel_rfl) rfl #[.agg #[.int .i64 ((rd_T89 l0 x8_3).f1.f0), .int .i64 ((rd_T89 l0 x8_3).f1.f1)], .agg #[.int .i64 a2_0, .int .i64 a2_1]] (by rfl) rfl rfl zM ?_
              with_reducible refine (spec_l01Plus.calls kj12 ((rd_T89 l0 x8_3).f1.f0) ((rd_T89 l0 x8_3).f1.f1) a2_0 a2_1 t212 t213 false _ A22.out).mono ?_
              rintro e w63 ⟨rfl, hb⟩
              refine ⟨_, rfl, ?_⟩
              replace HO_9 := zA (Kd.R_below HO_9.out hb)
              replace BK197 := zA (zW BK197 hb)
              replace BK215 := zA (zW BK215 hb)
              replace HB := zA (below_step zB hb)
              (try clear hb)
              (try clear hb2)
              (try clear hk)
              (try clear hi)
              refine hK.out _ _ ⟨(blk_cell BK197.out 0).trans rfl, (blk_cell BK197.out 1).trans rfl, (zH HB hw211_0 :), (zH HB hw211_1 :), (zH HB hw211_2 :)⟩ (fun hHeld => ?_)
              clear hK K
              refine norm_ (a' := ?_) ?_ ?_
              rotate_left
              ·show Act.put _ (some 52) _ = _
               simp only [Act.put, List.setIfInBounds_toArray, List.set, i64_w, i32_w]
               rfl
              refine zP 7 (N := some 45) (h := ?_)
              refine zP 8 (N := some 53) (h := ?_)
              refine zP 9 (N := some 54) (h := ?_)
              exact norm_ (by simp only [putAll, Act.put, List.setIfInBounds_toArray, List.set]) (hCont (gb215) _ ⟨hHeld, zR, zK, zK, GW215.out, GE215.out, NB197_215.out, NB215_197.out, zB⟩)
            rintro gb215 w64 ⟨hS_, h0_, h1_, h2_, h3_, h4_, h5_, h6_, h7_⟩
            have BK215 : Aside0 (w64.heap[gb215]? = some (.cells #[.int .i64 0, .int .i64 0] 27 (0, 0))) := ⟨h2_⟩
            have GW215 : Aside0 (w.heap.size ≤ gb215) := ⟨h3_⟩
            have GE215 : Aside0 (w.heap.size ≤ gb215) := ⟨h4_⟩
            have NB197_215 : Aside0 (gb197 ≠ gb215) := ⟨h5_⟩
            have NB215_197 : Aside0 (gb215 ≠ gb197) := ⟨h6_⟩
            replace HO_9 : Aside0 (Kd.R k89 89 w64 w.heap.size (fun _ => True) v208 y207) := ⟨h0_⟩
            replace BK197 : Aside0 (w64.heap[gb197]? = some (.cells #[.int .i64 a2_0, .int .i64 a2_1] 27 (0, 0))) := ⟨h1_⟩
            replace HB : Aside0 (Below w.heap.size w w64) := ⟨h7_⟩
            clear h0_ h1_ h2_ h3_ h4_ h5_ h6_ h7_
            have hHeld : w64.cell? ⟨gb197, 0, none⟩ = some (.int .i64 a2_0) ∧ w64.cell? ⟨gb197, 1, none⟩ = some (.int .i64 a2_1) ∧ w64.cell? (ad211.add ((x8_3).toNat * 3)) = some (.string ((rd_T89 l0 x8_3).f0)) ∧ w64.cell? ⟨(ad211.add ((x8_3).toNat * 3)).block, (ad211.add ((x8_3).toNat * 3)).off + 1, none⟩ = some (.int .i64 ((rd_T89 l0 x8_3).f1.f0)) ∧ w64.cell? ⟨(ad211.add ((x8_3).toNat * 3)).block, (ad211.add ((x8_3).toNat * 3)).off + 2, none⟩ = some (.int .i64 ((rd_T89 l0 x8_3).f1.f1)) := hS_
            refine norm_ (a' := ?_) ?_ ?_
            rotate_left
            ·simp only [putAll, Act.put, List.setIfInBounds_toArray, List.set]
             rfl
            refine one_ (i := 11) (N := none) #[true, true, true, true, true, true, true, true, true, true, true, true, false] rfl rfl (one_of HT_.out (by kernel_rfl)) (by decide) (fun K hK => ?_)
            have hs65 : w64.cell? ⟨gb215, 0, none⟩ = some (.int .i64 0) := (blk_cell BK215.out 0).trans rfl
            have hfs65 := blk_frozen BK215.out 0
            have hns65_0 := NB197_215.out
            have hms65_0 := NB215_197.out
            have hs66 : w64.cell? ⟨gb215, 1, none⟩ = some (.int .i64 0) := (blk_cell BK215.out 1).trans rfl
            have hfs66 := blk_frozen BK215.out 1
            have hns66_0 := NB197_215.out
            have hms66_0 := NB215_197.out
            refine skip_ (w1 := ?_) (by rfl) rfl ?_ ?_
            rotate_left
            ·go_simp
             rfl
            refine hK.out _ _ ⟨((cell_far (p := ⟨gb215, _, none⟩) NB197_215.out _).trans (((cell_far (p := ⟨gb215, _, none⟩) NB197_215.out _).trans (hHeld.1)))), ((cell_far (p := ⟨gb215, _, none⟩) NB197_215.out _).trans (((cell_far (p := ⟨gb215, _, none⟩) NB197_215.out _).trans (hHeld.2.1)))), ((cell_far (p := ⟨gb215, _, none⟩) (by exact Nat.ne_of_lt (Nat.lt_of_lt_of_le (by have := World.block_lt_of_cell? _ _ hw211_0; exact this) GW215.out)) _).trans (((cell_far (p := ⟨gb215, _, none⟩) (by exact Nat.ne_of_lt (Nat.lt_of_lt_of_le (by have := World.block_lt_of_cell? _ _ hw211_0; exact this) GW215.out)) _).trans (hHeld.2.2.1)))), ((cell_far (p := ⟨gb215, _, none⟩) (by exact Nat.ne_of_lt (Nat.lt_of_lt_of_le (by have := World.block_lt_of_cell? _ _ hw211_1; exact this) GW215.out)) _).trans (((cell_far (p := ⟨gb215, _, none⟩) (by exact Nat.ne_of_lt (Nat.lt_of_lt_of_le (by have := World.block_lt_of_cell? _ _ hw211_1; exact this) GW215.out)) _).trans (hHeld.2.2.2.1)))), ((cell_far (p := ⟨gb215, _, none⟩) (by exact Nat.ne_of_lt (Nat.lt_of_lt_of_le (by have := World.block_lt_of_cell? _ _ hw211_2; exact this) GW215.out)) _).trans (((cell_far (p := ⟨gb215, _, none⟩) (by exact Nat.ne_of_lt (Nat.lt_of_lt_of_le (by have := World.block_lt_of_cell? _ _ hw211_2; exact this) GW215.out)) _).trans (hHeld.2.2.2.2))))⟩ (fun hHeld => ?_)
            clear hK K
            refine zP 12 (N := some 11) (h := ?_)
            refine done_ (done_of HT_.out (by kernel_rfl)) ?_
            try go_wp2
            go_ret2
            exact ⟨_, by rfl, by exact Kd.R_nil _ _ _ _ _, zB⟩
          ·rw [if_neg c21] at H
           exact absurd H (by simp)
         ·rw [if_neg c20] at H
          exact absurd H (by simp)
        ·replace c19 := Bool.eq_false_iff.mpr c19
         subst c19
         have H1 : ((spec_l01Zero.f a2_0 a2_1).bind fun t234 => (if t234 = true then (if 0 ≤ x8_3 then (if x8_3 ≤ (l0.length : Int) then ((some (l0.drop (x8_3 : Int).toNat : List (S89))).bind fun y235 => (if y207.length + y235.length < 4398046511104 then (some ((y207 ++ y235), true)) else (none))) else (none)) else (none)) else (if y207.length < 4398046511104 then ((some (y207 ++ [(⟨a1, (⟨a2_0, a2_1⟩ : S27)⟩ : S89)] : List (S89))).bind fun y242 => (if 0 ≤ x8_3 then (if x8_3 ≤ (l0.length : Int) then ((some (l0.drop (x8_3 : Int).toNat : List (S89))).bind fun y245 => (if y242.length + y245.length < 4398046511104 then (some ((y242 ++ y245), true)) else (none))) else (none)) else (none))) else (none)))) = some (r1, r2) := by rw [if_neg (show ¬ (false = true) by decide)] at H; exact H
         clear H
         have H := H1
         clear H1
         replace H := Option.bind_eq_some_iff.mp H
         obtain ⟨t234, A670, H⟩ := H
         replace H : (if t234 = true then (if 0 ≤ x8_3 then (if x8_3 ≤ (l0.length : Int) then ((some (l0.drop (x8_3 : Int).toNat : List (S89))).bind fun y235 => (if y207.length + y235.length < 4398046511104 then (some ((y207 ++ y235), true)) else (none))) else (none)) else (none)) else (if y207.length < 4398046511104 then ((some (y207 ++ [(⟨a1, (⟨a2_0, a2_1⟩ : S27)⟩ : S89)] : List (S89))).bind fun y242 => (if 0 ≤ x8_3 then (if x8_3 ≤ (l0.length : Int) then ((some (l0.drop (x8_3 : Int).toNat : List (S89))).bind fun y245 => (if y242.length + y245.length < 4398046511104 then (some ((y242 ++ y245), true)) else (none))) else (none)) else (none))) else (none))) = some (r1, r2) := H
         have A67 := zA A670
         clear A670
         by_cases c68 : t234 = true
         ·subst c68
          have H1 : (if 0 ≤ x8_3 then (if x8_3 ≤ (l0.length : Int) then ((some (l0.drop (x8_3 : Int).toNat : List (S89))).bind fun y235 => (if y207.length + y235.length < 4398046511104 then (some ((y207 ++ y235), true)) else (none))) else (none)) else (none)) = some (r1, r2) := by rw [if_pos rfl] at H; exact H
          clear H
          have H := H1
          clear H1
          by_cases c69 : 0 ≤ x8_3
          ·rw [if_pos c69] at H
           have c69b0 := eq_true c69
           have c69b1 : decide (0 ≤ x8_3) = true := decide_eq_true c69
           clear c69
           by_cases c70 : x8_3 ≤ (l0.length : Int)
           ·rw [if_pos c70] at H
            have c70b0 := eq_true c70
            have c70b1 : decide (x8_3 ≤ (l0.length : Int)) = true := decide_eq_true c70
            clear c70
            obtain ⟨y235, hy235⟩ : ∃ y_ : List (S89), y_ = (l0.drop (x8_3 : Int).toNat) := ⟨_, rfl⟩
            replace H : (if y207.length + y235.length < 4398046511104 then (some ((y207 ++ y235), true)) else (none)) = some (r1, r2) := by (have H2_ := (Option.bind_some _ _).symm.trans H; rw [hy235]; with_reducible exact H2_)
            have Ny235 := zA hy235
            clear hy235
            by_cases c71 : y207.length + y235.length < 4398046511104
            ·rw [if_pos c71] at H
             have LMc71 := zA c71
             clear c71
             obtain ⟨y239, hy239⟩ : ∃ y_ : List (S89), y_ = (y207 ++ y235) := ⟨_, rfl⟩
             replace H : (some (y239, true)) = some (r1, r2) := by (rw [hy239]; with_reducible exact H)
             have Ny239 := zA hy239
             clear hy239
             simp only [Option.some.injEq, Prod.mk.injEq] at H
             obtain ⟨rfl, rfl⟩ := H
             obtain ⟨hcz72_0, hcz72_1, hfz72_0, hfz72_1⟩ := zC2 BK197
             go_wp2_with (first | ((with_reducible refine gate_callee (f := 104) rfl ?_); refine goesL_ (some 61) rfl rfl Try.func104 (by kernel_rfl) rfl #[.agg #[.int .i64 a2_0, .int .i64 a2_1]] rfl zM ?_; (with_reducible refine (spec_l01Zero.calls a2_0 a2_1 true _ A67.out).mono ?_); rintro e w73 ⟨rfl, hb⟩; refine ⟨_, rfl, ?_⟩; replace HO_9 := zA (Kd.R_below HO_9.out hb); replace BK197 := zA (zW BK197 hb); replace HB := zA (below_step zB hb); (try clear hb); (try clear hb2); (try clear hk); (try clear hi); have q74 : (x8_3 : Int) ≤ ((l0.length : Int) : Int) := zD; obtain ⟨i074, hi074, _, hsz74, _⟩ := info_parts info89; have hroom74 : l0.length ≤ c0 := HC0.out; have hC74 : Kd.C k89 _ A0 l0.length l0 := HR0.out; have q074 : (0 : Int) ≤ (x8_3 : Int) := zD; have hcut74 := cut_from (P := Try.prog) 30 89 .i64 Try.underlying30 hi074 3 hsz74 A0 l0.length c0 x8_3 q074 q74; have hr74 := Kd.C_drop (m := (x8_3 : Int).toNat) (c := c0) hC74 (by omega) hroom74; obtain ⟨A74, hA74⟩ : ∃ A1, A1 = (if c0 = (x8_3 : Int).toNat then A0 else (A0 : Option Addr).map (·.add ((x8_3 : Int).toNat * 3))) := ⟨_, rfl⟩; obtain ⟨c74, hc74⟩ : ∃ c1, c1 = c0 - (x8_3 : Int).toNat := ⟨_, rfl⟩; have hy74 : y235.length = l0.length - (x8_3 : Int).toNat := (by rw [Ny235.out, List.length_drop] <;> omega); rw [show (l0).drop (x8_3 : Int).toNat = y235 from Ny235.out.symm] at hr74; replace hr74 : Kd.C k89 _ A74 y235.length y235 := (by rw [hA74]; exact hr74); rw [← hy74, ← hA74, ← hc74] at hcut74; have HR238 := zA hr74; have HC238 := zA (show y235.length ≤ c74 from by rw [hy74, hc74]; exact Nat.sub_le_sub_right hroom74 _); clear hr74 hC74 hroom74 hi074 hsz74 hc74; have KY74 := zA hy74; have KA74 := zA hA74; clear hy74 hA74; replace q74 := eq_true q74) | ((with_reducible refine gate_builtin (b := .append) (xs := #[.tmp 69, .tmp 72]) rfl ?_); at_builtin; refine Kd.R_append_rows k89 (w0 := w) w.heap.size rfl (.tmp 69) (.tmp 72) 30 89 (.agg #[(.string ⟨#[]⟩), (.int .i64 0), (.int .i64 0)]) 32 rfl Try.underlying30 info89 rfl (by decide) (by omega) v208 y207 y235 _ _ _ (fun _ => True) (fun _ => False) rfl rfl ?aO ?aR (fun _ _ h => h) (fun _ h => h.elim) ?aF ?aB ?aS ?aL ?_; (case aR => repeat (exact (Kd.C_below HR238.out HB.out))); (case aB => exact zB); (case aF => exact (fun _ _ => trivial)); (case aO => exact zR); (case aS => exact (below_size zB)); (case aL => have := LMc71.out; omega); intro v240 w75 ho hb hg hat; rw [← Ny239.out] at ho; have HO241 := zA (ho); replace BK197 := zA (blk_grown (g := gb197) (o := .cells #[.int .i64 a2_0, .int .i64 a2_1] 27 (0, 0)) zK hg (Kd.R_ne HO_9.out BK197.out (by decide))); replace HB := zA (hb); clear HO_9; clear ho hb hg hat))
             go_ret2
             exact ⟨_, by rfl, zR, zB⟩
            ·rw [if_neg c71] at H
             exact absurd H (by simp)
           ·rw [if_neg c70] at H
            exact absurd H (by simp)
          ·rw [if_neg c69] at H
           exact absurd H (by simp)
         ·replace c68 := Bool.eq_false_iff.mpr c68
          subst c68
          have H1 : (if y207.length < 4398046511104 then ((some (y207 ++ [(⟨a1, (⟨a2_0, a2_1⟩ : S27)⟩ : S89)] : List (S89))).bind fun y242 => (if 0 ≤ x8_3 then (if x8_3 ≤ (l0.length : Int) then ((some (l0.drop (x8_3 : Int).toNat : List (S89))).bind fun y245 => (if y242.length + y245.length < 4398046511104 then (some ((y242 ++ y245), true)) else (none))) else (none)) else (none))) else (none)) = some (r1, r2) := by rw [if_neg (show ¬ (false = true) by decide)] at H; exact H
          clear H
          have H := H1
          clear H1
          by_cases c76 : y207.length < 4398046511104
          ·rw [if_pos c76] at H
           have LMc76 := zA c76
           clear c76
           obtain ⟨y242, hy242⟩ : ∃ y_ : List (S89), y_ = (y207 ++ [(⟨a1, (⟨a2_0, a2_1⟩ : S27)⟩ : S89)]) := ⟨_, rfl⟩
           replace H : (if 0 ≤ x8_3 then (if x8_3 ≤ (l0.length : Int) then ((some (l0.drop (x8_3 : Int).toNat : List (S89))).bind fun y245 => (if y242.length + y245.length < 4398046511104 then (some ((y242 ++ y245), true)) else (none))) else (none)) else (none)) = some (r1, r2) := by (have H2_ := (Option.bind_some _ _).symm.trans H; rw [hy242]; with_reducible exact H2_)
           have Ny242 := zA hy242
           clear hy242
           by_cases c77 : 0 ≤ x8_3
           ·rw [if_pos c77] at H
            have c77b0 := eq_true c77
            have c77b1 : decide (0 ≤ x8_3) = true := decide_eq_true c77
            clear c77
            by_cases c78 : x8_3 ≤ (l0.length : Int)
            ·rw [if_pos c78] at H
             have c78b0 := eq_true c78
             have c78b1 : decide (x8_3 ≤ (l0.length : Int)) = true := decide_eq_true c78
             clear c78
             obtain ⟨y245, hy245⟩ : ∃ y_ : List (S89), y_ = (l0.drop (x8_3 : Int).toNat) := ⟨_, rfl⟩
             replace H : (if y242.length + y245.length < 4398046511104 then (some ((y242 ++ y245), true)) else (none)) = some (r1, r2) := by (have H2_ := (Option.bind_some _ _).symm.trans H; rw [hy245]; with_reducible exact H2_)
             have Ny245 := zA hy245
             clear hy245
             by_cases c79 : y242.length + y245.length < 4398046511104
             ·rw [if_pos c79] at H
              have LMc79 := zA c79
              clear c79
              obtain ⟨y249, hy249⟩ : ∃ y_ : List (S89), y_ = (y242 ++ y245) := ⟨_, rfl⟩
              replace H : (some (y249, true)) = some (r1, r2) := by (rw [hy249]; with_reducible exact H)
              have Ny249 := zA hy249
              clear hy249
              simp only [Option.some.injEq, Prod.mk.injEq] at H
              obtain ⟨rfl, rfl⟩ := H
              obtain ⟨hcz80_0, hcz80_1, hfz80_0, hfz80_1⟩ := zC2 BK197
              go_wp2_with (first | ((with_reducible refine gate_callee (f := 104) rfl ?_); refine goesL_ (some 61) rfl rfl Try.func104 (by kernel_rfl) rfl #[.agg #[.int .i64 a2_0, .int .i64 a2_1]] rfl zM ?_; (with_reducible refine (spec_l01Zero.calls a2_0 a2_1 false _ A67.out).mono ?_); rintro e w81 ⟨rfl, hb⟩; refine ⟨_, rfl, ?_⟩; replace HO_9 := zA (Kd.R_below HO_9.out hb); replace BK197 := zA (zW BK197 hb); replace HB := zA (below_step zB hb); (try clear hb); (try clear hb2); (try clear hk); (try clear hi); obtain ⟨hcz82_0, hcz82_1, hfz82_0, hfz82_1⟩ := zC2 BK197) | ((with_reducible refine gate_builtin (b := .append) (xs := #[.tmp 63, .tmp 67]) rfl ?_); at_builtin; refine Kd.R_append k89 (w0 := w) w.heap.size rfl (.tmp 63) (.tmp 67) 30 89 (.agg #[(.string ⟨#[]⟩), (.int .i64 0), (.int .i64 0)]) 32 rfl Try.underlying30 info89 rfl (by decide) (by omega) v208 y207 (⟨a1, (⟨a2_0, a2_1⟩ : S27)⟩ : S89) [.string a1, .int .i64 a2_0, .int .i64 a2_1] (fun _ => True) (fun _ => False) rfl rfl ?aP (fun _ hk => hk.elim) ?aF ?aO ?aB ?aS ?aL ?_; (case aP => exact k89_mkM _ _ _ (⟨a1, (⟨a2_0, a2_1⟩ : S27)⟩ : S89)); (case aB => exact zB); (case aF => exact (fun _ _ => trivial)); (case aO => exact zR); (case aS => exact (below_size zB)); (case aL => have := LMc76.out; omega); intro v243 w83 ho hb hg hat; rw [← Ny242.out] at ho; have HO244 := zA (ho); replace BK197 := zA (blk_grown (g := gb197) (o := .cells #[.int .i64 a2_0, .int .i64 a2_1] 27 (0, 0)) zK hg (Kd.R_ne HO_9.out BK197.out (by decide))); replace HB := zA (hb); clear HO_9; clear ho hb hg hat; have q84 : (x8_3 : Int) ≤ ((l0.length : Int) : Int) := zD; obtain ⟨i084, hi084, _, hsz84, _⟩ := info_parts info89; have hroom84 : l0.length ≤ c0 := HC0.out; have hC84 : Kd.C k89 _ A0 l0.length l0 := HR0.out; have q084 : (0 : Int) ≤ (x8_3 : Int) := zD; have hcut84 := cut_from (P := Try.prog) 30 89 .i64 Try.underlying30 hi084 3 hsz84 A0 l0.length c0 x8_3 q084 q84; have hr84 := Kd.C_drop (m := (x8_3 : Int).toNat) (c := c0) hC84 (by omega) hroom84; obtain ⟨A84, hA84⟩ : ∃ A1, A1 = (if c0 = (x8_3 : Int).toNat then A0 else (A0 : Option Addr).map (·.add ((x8_3 : Int).toNat * 3))) := ⟨_, rfl⟩; obtain ⟨c84, hc84⟩ : ∃ c1, c1 = c0 - (x8_3 : Int).toNat := ⟨_, rfl⟩; have hy84 : y245.length = l0.length - (x8_3 : Int).toNat := (by rw [Ny245.out, List.length_drop] <;> omega); rw [show (l0).drop (x8_3 : Int).toNat = y245 from Ny245.out.symm] at hr84; replace hr84 : Kd.C k89 _ A84 y245.length y245 := (by rw [hA84]; exact hr84); rw [← hy84, ← hA84, ← hc84] at hcut84; have HR248 := zA hr84; have HC248 := zA (show y245.length ≤ c84 from by rw [hy84, hc84]; exact Nat.sub_le_sub_right hroom84 _); clear hr84 hC84 hroom84 hi084 hsz84 hc84; have KY84 := zA hy84; have KA84 := zA hA84; clear hy84 hA84; replace q84 := eq_true q84) | ((with_reducible refine gate_builtin (b := .append) (xs := #[.tmp 69, .tmp 72]) rfl ?_); at_builtin; refine Kd.R_append_rows k89 (w0 := w) w.heap.size rfl (.tmp 69) (.tmp 72) 30 89 (.agg #[(.string ⟨#[]⟩), (.int .i64 0), (.int .i64 0)]) 32 rfl Try.underlying30 info89 rfl (by decide) (by omega) v243 y242 y245 _ _ _ (fun _ => True) (fun _ => False) rfl rfl ?aO ?aR (fun _ _ h => h) (fun _ h => h.elim) ?aF ?aB ?aS ?aL ?_; (case aR => repeat (exact (Kd.C_below HR248.out HB.out))); (case aB => exact zB); (case aF => exact (fun _ _ => trivial)); (case aO => exact zR); (case aS => exact (below_size zB)); (case aL => have := LMc79.out; omega); intro v250 w85 ho hb hg hat; rw [← Ny249.out] at ho; have HO251 := zA (ho); replace BK197 := zA (blk_grown (g := gb197) (o := .cells #[.int .i64 a2_0, .int .i64 a2_1] 27 (0, 0)) zK hg (Kd.R_ne HO244.out BK197.out (by decide))); replace HB := zA (hb); clear HO244; clear ho hb hg hat))
              go_ret2
              exact ⟨_, by rfl, zR, zB⟩
             ·rw [if_neg c79] at H
              exact absurd H (by simp)
            ·rw [if_neg c78] at H
             exact absurd H (by simp)
           ·rw [if_neg c77] at H
            exact absurd H (by simp)
          ·rw [if_neg c76] at H
           exact absurd H (by simp)
     ·rw [if_neg c12] at H
      exact absurd H (by simp)
    ·rw [if_neg c11] at H
     exact absurd H (by simp)
   ·rw [if_neg c10] at H
    exact absurd H (by simp)

end Go.Proofs.Ytcklefgkbddlhaa.P
