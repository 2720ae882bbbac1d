/- What a call of each Go function named below comes to is what the plain function beside it says. -/
import Derived.Test.YtcklefgkbddlhaaPx0
import Derived.Test.YtcklefgkbddlhaaPx11
import Derived.Test.YtcklefgkbddlhaaPx13
import Derived.Test.YtcklefgkbddlhaaPx15
import Derived.Test.YtcklefgkbddlhaaHandRows
namespace Go.Proofs.Ytcklefgkbddlhaa.P
open Go.RowKit Go.Proofs.YtcklefgkbddlhaaW.PrintWords Go.Proofs.YtcklefgkbddlhaaW.PrintLast Go.Proofs.YtcklefgkbddlhaaW.PrintMore
attribute [local go_sem] max2_int min2_int max_two min_two max_three min_three max_four min_four
set_option linter.unusedVariables false
set_option linter.unusedSimpArgs false
/-! ### impl_product: function 113, by hand -/
set_option maxHeartbeats 2000000 in
theorem impl_product_ask (A : Option Addr) (c : Nat) (x : List Int) (W : World) (hr : (Kd.int .i64).C W A x.length x) (hx : x.length ≤ c) :
    Calls Try.prog 157 #[.slice A x.length c] W fun e w' => e = .returned (.bool (!(!(x.any fun n => !(Hand.upToB n 1000000000))))) ∧ Below W.heap.size W w' := by
  have HR := Aside0.mk hr
  have HX := Aside0.mk hx
  clear hr hx
  generalize hQ : (!(x.any fun n => !(Hand.upToB n 1000000000))) = Q
  have HA := Aside0.mk (show impl_allUpTo.f x 1000000000 = some Q from by rw [← hQ]; rfl)
  clear hQ
  go_enter Try.func157, Try.ntmps157
  go_wp2_with (go_at_call 148; refine (impl_allUpTo.calls A c x 1000000000 Q _ HR.out HX.out HA.out).mono ?_; rintro e w' ⟨rfl, hb⟩)
  go_ret
  exact ⟨rfl, hb⟩
/-- Is an entry too great? -/
def impl_product.over (t : List (List Int)) : Bool := t.any fun x => !(!(x.any fun n => !(Hand.upToB n 1000000000)))
/-- The first i entries of the diagonal are 1. -/
def impl_product.diag : Nat → List (List Int) → List (List Int)
  | 0, t => t
  | i + 1, t => (impl_product.diag i t).set i (((impl_product.diag i t).getD i []).set i 1)
theorem impl_product.diag_len (i : Nat) (t : List (List Int)) : (impl_product.diag i t).length = t.length := by
  induction i with
  | zero => rfl
  | succ i ih => rw [impl_product.diag, List.length_set, ih]
theorem impl_product.diag_row (i : Nat) (t : List (List Int)) (j : Nat) : ((impl_product.diag i t).getD j []).length = (t.getD j []).length := by
  induction i with
  | zero => rfl
  | succ i ih =>
    rw [impl_product.diag, ← ih]
    simp only [List.getD_eq_getElem?_getD, List.getElem?_set]
    by_cases e : i = j
    · subst e
      by_cases h : i < (impl_product.diag i t).length
      · simp [h]
      · simp [h]
    · simp [e]
def impl_product.l0 : Nat → List (List (List Int)) → ByteArray → List (List Int) → Int → Int → Option ((List (List Int)) × Bool)
  | 0, _, _, _, _, _ => none
  | k + 1, x0, x1, x6, x14, x15 => if x15 < x14 then (if 0 ≤ x15 then (if x15 < (x1.size : Int) then (if 0 ≤ (((bt x1 x15) - 48) % 256) then (if (((bt x1 x15) - 48) % 256) < (x0.length : Int) then ((impl_timesMatrix.f k x6 (rd_L7 x0 (((bt x1 x15) - 48) % 256))).bind fun t277 => (if impl_product.over t277 = true then (some (([] : List (List Int)), false)) else (impl_product.l0 k x0 x1 t277 x14 (wrap64 (x15 + 1))))) else (none)) else (none)) else (none)) else (none)) else (some (x6, true))
def impl_product.f (k : Nat) (l0 : List (List (List Int))) (a1 : ByteArray) : Option ((List (List Int)) × Bool) := if 0 < (l0.length : Int) then ((impl_square.f k ((rd_L7 l0 0).length : Int)).bind fun t273 => (if (∀ j, j < t273.length → t273.length ≤ (t273.getD j []).length) then (impl_product.l0 k l0 a1 (impl_product.diag t273.length t273) (a1.size : Int) 0) else none)) else (none)
theorem impl_product.mono_l : ∀ k, (∀ y0 y1 y2 y3 y4, LeO (impl_product.l0 k y0 y1 y2 y3 y4) (impl_product.l0 (k + 1) y0 y1 y2 y3 y4))
  | 0 => fun _ _ _ _ _ r h => by simp [impl_product.l0] at h
  | k + 1 => by
    have ih0 := impl_product.mono_l k
    · intro y0 y1 y2 y3 y4
      unfold impl_product.l0
      repeat' first
      | (with_reducible exact ih0 _ _ _ _ _)
      | (with_reducible exact impl_timesMatrix.mono _ _ _)
      | (with_reducible exact LeO.refl _)
      | (with_reducible exact LeO.none _)
      | (with_reducible refine LeO.ite ?_ ?_)
      | (with_reducible refine LeO.bind ?_ (fun _ => ?_))
theorem impl_product.mono : ∀ a0 a1 k, LeO (impl_product.f k a0 a1) (impl_product.f (k + 1) a0 a1) := by
  intro a0 a1 k
  have ih0 := impl_product.mono_l k
  unfold impl_product.f
  repeat' first
      | (with_reducible exact ih0 _ _ _ _ _)
      | (with_reducible exact impl_square.mono _ _)
      | (with_reducible exact LeO.refl _)
      | (with_reducible exact LeO.none _)
      | (with_reducible refine LeO.ite ?_ ?_)
      | (with_reducible refine LeO.bind ?_ (fun _ => ?_))
set_option maxHeartbeats 8000000 in
set_option maxRecDepth 100000 in
theorem impl_product.callsS (k : Nat) (A0 : Option Addr) (c0 : Nat) (l0 : List (List (List Int))) (a1 : ByteArray) (r1 : List (List Int)) (r2 : Bool) (w : World) (hr0 : Kd.C (Kd.slice 48 (Kd.slice 2 (Kd.int .i64))) w A0 l0.length l0) (hc0 : l0.length ≤ c0) (h : impl_product.f k l0 a1 = some (r1, r2)) :
    Calls Try.prog 113 #[.slice A0 l0.length c0, .string a1] w fun e w' => ∃ v0_ : Value, e = .returned (.tuple #[v0_, .bool r2]) ∧ Kd.S (Kd.slice 2 (Kd.int .i64)) 48 w' w.heap.size (fun k_ => (w.heap.size ≤ k_)) v0_ r1 ∧ Below w.heap.size w w' := by
  have HR0 := Aside0.mk hr0
  have HC0 := Aside0.mk hc0
  clear hr0 hc0
  have eg := enters_of Try.func157 (by kernel_rfl) rfl
  unfold impl_product.f at h
  by_cases c3 : 0 < (l0.length : Int)
  · rw [if_pos c3] at h
    obtain ⟨t273, A4, h⟩ := Option.bind_eq_some_iff.mp h
    by_cases c4 : ∀ j, j < t273.length → t273.length ≤ (t273.getD j []).length
    · rw [if_pos c4] at h
      have A4 := Aside0.mk A4
      have H' := Aside0.mk h
      have C4 := Aside0.mk c4
      clear h c4
      obtain ⟨ad272, A272_0, c272_0, e272, hx272_0, hl272_0, hi272_0⟩ := at_L7 HR0.out 0 (by omega) c3
      cases e272
      have qi272 : (0 < l0.length) = True := eq_true (by omega)
      (try rw [show ((0 : Int)).toNat = 0 from rfl] at hx272_0)
      (try rw [Addr.add_zero'] at hx272_0)
      clear hi272_0 hl272_0 c3
      go_enter Try.func113, Try.ntmps113
      go_wp2_with (go_at_call 116; refine (impl_square.calls k ((rd_L7 l0 0).length : Int) t273 _ A4.out).mono ?_; rintro e w5 ⟨v274, rfl, ho0, hb⟩; have HS := Aside0.mk (Kd.S_mono (ok' := fun k_ => (w.heap.size ≤ k_)) (Kd.S_bound ho0) (fun k_ hk_ => hk_.2.1)); have HB := Aside0.mk hb; clear ho0 hb; obtain ⟨Aq, cq, eq0⟩ := Kd.S_slice HS.out; subst eq0)
      go_loopg [16] t273.length (fun gg s16 wr => ∃ i : Nat, i ≤ t273.length ∧ t273.length - i ≤ gg ∧ s16 = .int .i64 i ∧ Aside0 (Kd.S (Kd.slice 2 (Kd.int .i64)) 48 wr w.heap.size (fun k_ => (w.heap.size ≤ k_)) (.slice Aq t273.length cq) (impl_product.diag i t273)) ∧ Aside0 (Below w.heap.size w wr))
      case atStart => exact ⟨0, Nat.zero_le _, by omega, rfl, ⟨HS.out⟩, HB⟩
      case round =>
        clear HS HB
        obtain ⟨i, hi, hg, rfl, HS, HB⟩ := hrel
        have hln := impl_product.diag_len i t273
        have hmax := Kd.C_max (Kd.S_reads' HS.out).2.2
        rw [hln] at hmax
        by_cases hlt : i < t273.length
        · have hltz : (i : Int) < (t273.length : Int) := by omega
          obtain ⟨g, cap, e1, hg1, hg2, cells, hcells⟩ := Kd.S_form HS.out (by omega)
          injection e1 with e1 e2 e3
          subst e1 e3
          clear e2
          obtain ⟨oki, cs, hcs, hM, hcell, hoki, hback⟩ := Kd.S_borrow HS.out ([] : List Int) (i : Int) (by omega) (by omega)
          have hrow := impl_product.diag_row i t273 i
          have hbig := C4.out i hlt
          rw [Int.toNat_natCast] at hM hcell hback
          generalize hy : (impl_product.diag i t273).getD i [] = y at hM hrow
          obtain ⟨v', rfl, hR⟩ := hM
          have hcellv := hcell 0 v' rfl
          obtain ⟨g', cap', e4, hg3, hg4, cells', hcells'⟩ := Kd.R_form hR (by omega)
          subst e4
          have hcell0 : wr.cell? ⟨g, i, none⟩ = some (.slice (some ⟨g', 0, none⟩) y.length cap') := by
            have : i * (Kd.slice 2 (Kd.int .i64)).sz + 0 = i := by show i * 1 + 0 = i; omega
            rw [this, add_at, Nat.zero_add] at hcellv; exact hcellv
          have hyz : (i : Int) < (y.length : Int) := by omega
          obtain ⟨hx9_0, hf9_0⟩ := Kd.R_celln 0 hR (i : Int) (by omega) (by omega)
          have HP := Kd.R_putg hR (i : Int) 1
          rw [Int.toNat_natCast] at HP hx9_0 hf9_0
          have HBK := Aside0.mk (hback (x' := y.set i 1) HP.2 (fun k_ hk_ => hR.1 k_ (by rw [← hk_]; rfl)) ⟨_, rfl, HP.1⟩)
          have HG := Aside0.mk HP.2
          have HBASE := Aside0.mk hg3
          have HY := Aside0.mk hy
          clear hback hcell hcellv hoki hcs hcells hcells' hR HP hy hg1 hg2 hg4 hbig hrow
          go_wp2_with ((with_reducible refine gate_store (t := 2) (p := 24) rfl ?_); refine store_event (t := 2) (p := 24) (v := ?vo) (w1 := (wr.setCell ⟨g', i, none⟩ (.int .i64 1))) ?hg ?ho ?hn ?hr ?_; (case ho => rfl); (case hg => rfl); (case hn => rfl); (case hr => first | (go_simp; done) | (go_simp; rfl)); intro w14 hw)
          go_roundg (t273.length - (i + 1))
          case measure => omega
          case rel =>
            refine ⟨i + 1, by omega, by omega, by go_num, ⟨?_⟩, ⟨?_⟩⟩
            ·rw [impl_product.diag, HY.out]
             exact HBK.out
            ·exact below_set HB.out HBASE.out
        · have hltz : ¬ (i : Int) < (t273.length : Int) := by omega
          obtain rfl : i = t273.length := by omega
          clear hltz hlt hg hi
          generalize impl_product.diag t273.length t273 = u at H' HS hln
          go_wp2
          clear hln hmax
          go_loopg [6, 28] k (fun kq v6 v28 w' => ∃ (x6_1 : List (List Int)) (x15_1 : Int), v28 = .int .i64 x15_1 ∧ Aside0 (impl_product.l0 kq l0 a1 x6_1 (a1.size : Int) x15_1 = some (r1, r2)) ∧ Aside0 (kq ≤ k) ∧ Aside0 (Kd.S (Kd.slice 2 (Kd.int .i64)) 48 w' w.heap.size (fun k_ => (w.heap.size ≤ k_)) v6 x6_1) ∧ Aside0 (Below w.heap.size w w'))
          case atStart => exact ⟨u, 0, rfl, H', ⟨Nat.le_refl _⟩, HS, HB⟩
          case round =>
            clear H' HS HB
            obtain ⟨x6_1, x15_1, rfl, HA, HK1, HS, HB⟩ := hrel
            cases gk with
            | zero => exact absurd HA.out (by simp [impl_product.l0])
            | succ k1 =>
             have H := HA.out
             clear HA
             simp only [impl_product.l0] at H
             obtain ⟨Ax, cx, eqx⟩ := Kd.S_slice HS.out
             subst eqx
             by_cases c6 : x15_1 < (a1.size : Int)
             ·rw [if_pos c6] at H
              by_cases c7 : 0 ≤ x15_1
              ·rw [if_pos c7, if_pos c6] at H
               obtain ⟨ji10, hji10⟩ : ∃ j_ : Int, (((bt a1 x15_1) - 48) % 256) = j_ := ⟨_, rfl⟩
               rw [hji10] at H
               by_cases c11 : 0 ≤ ji10
               ·rw [if_pos c11] at H
                by_cases c12 : ji10 < (l0.length : Int)
                ·rw [if_pos c12] at H
                 obtain ⟨t277, A13, H⟩ := Option.bind_eq_some_iff.mp H
                 have A13 := Aside0.mk A13
                 have c6b0 : decide (x15_1 < (a1.size : Int)) = true := decide_eq_true c6
                 have c11b0 : decide (0 ≤ ji10) = true := decide_eq_true c11
                 have c12b0 : decide (ji10 < (l0.length : Int)) = true := decide_eq_true c12
                 have p9 : (0 ≤ x15_1) = True := eq_true c7
                 have q9 : (x15_1 < (a1.size : Int)) = True := eq_true c6
                 have hx9 := bt_at a1 x15_1
                 obtain ⟨ad276, A276_0, c276_0, e276, hx276_0, hl276_0, hi276_0⟩ := at_L7 HR0.out ji10 c11 c12
                 obtain rfl : ad272 = ad276 := (by injection e276)
                 replace hx276_0 := zH HB hx276_0
                 have HR276_0 := Aside0.mk hi276_0
                 have HC276_0 := Aside0.mk hl276_0
                 have p276 : (0 ≤ ji10) = True := eq_true c11
                 have q276 : (ji10 < (l0.length : Int)) = True := eq_true c12
                 clear hi276_0 hl276_0 c6 c7 c11 c12 e276
                 by_cases hQ : impl_product.over t277 = true
                 ·rw [if_pos hQ] at H
                  simp only [Option.some.injEq, Prod.mk.injEq] at H
                  obtain ⟨rfl, rfl⟩ := H
                  have HQ := Aside0.mk (show (t277.any fun x => !(!(x.any fun n => !(Hand.upToB n 1000000000)))) = true from hQ)
                  clear hQ
                  go_wp2_with (first | (go_at_call 156; with_reducible refine (impl_timesMatrix.callsS k1 _ _ x6_1 _ _ (rd_L7 l0 ji10) t277 _ (Kd.S_reads' HS.out).2.2 (Kd.S_reads' HS.out).2.1 (Kd.C_below HR276_0.out HB.out) HC276_0.out A13.out).mono ?_; rintro e w17 ⟨v278, rfl, ho0, hb⟩; have HS2 := Aside0.mk (Kd.S_lower (Kd.S_mono (ok' := fun k_ => (w.heap.size ≤ k_)) ho0 (fun k_ hk_ => Nat.le_trans HB.out.size hk_)) HB.out.size); have HB2 := Aside0.mk (below_step HB.out hb); clear ho0 hb; obtain ⟨Ay, cy, eqy⟩ := Kd.S_slice HS2.out; subst eqy) | (go_at_call 146; refine (Hand.containsFunc_rows 157 #[] eg (fun x => !(!(x.any fun n => !(Hand.upToB n 1000000000)))) Ay cy t277 _ (fun A c x W hb hC hx => impl_product_ask A c x W hC hx) (Kd.S_reads' HS2.out).2.2).mono ?_; rw [HQ.out]; rintro e w18 ⟨rfl, hb2⟩))
                  go_ret2
                  exact ⟨_, rfl, Kd.S_nil _ _ _ _ _, below_step HB2.out hb2⟩
                 ·rw [if_neg hQ] at H
                  have HQ := Aside0.mk (show (t277.any fun x => !(!(x.any fun n => !(Hand.upToB n 1000000000)))) = false from Bool.eq_false_iff.mpr hQ)
                  have H' := Aside0.mk H
                  clear hQ H
                  go_wp2_with (first | (go_at_call 156; with_reducible refine (impl_timesMatrix.callsS k1 _ _ x6_1 _ _ (rd_L7 l0 ji10) t277 _ (Kd.S_reads' HS.out).2.2 (Kd.S_reads' HS.out).2.1 (Kd.C_below HR276_0.out HB.out) HC276_0.out A13.out).mono ?_; rintro e w17 ⟨v278, rfl, ho0, hb⟩; have HS2 := Aside0.mk (Kd.S_lower (Kd.S_mono (ok' := fun k_ => (w.heap.size ≤ k_)) ho0 (fun k_ hk_ => Nat.le_trans HB.out.size hk_)) HB.out.size); have HB2 := Aside0.mk (below_step HB.out hb); clear ho0 hb; obtain ⟨Ay, cy, eqy⟩ := Kd.S_slice HS2.out; subst eqy) | (go_at_call 146; refine (Hand.containsFunc_rows 157 #[] eg (fun x => !(!(x.any fun n => !(Hand.upToB n 1000000000)))) Ay cy t277 _ (fun A c x W hb hC hx => impl_product_ask A c x W hC hx) (Kd.S_reads' HS2.out).2.2).mono ?_; rw [HQ.out]; rintro e w18 ⟨rfl, hb2⟩))
                  go_roundg k1
                  case measure => have := HK1.out; omega
                  case rel => exact ⟨t277, wrap64 (x15_1 + 1), rfl, H', ⟨by have := HK1.out; omega⟩, ⟨Kd.S_below HS2.out hb2⟩, ⟨below_step HB2.out hb2⟩⟩
                ·rw [if_neg c12] at H
                 exact absurd H (by simp)
               ·rw [if_neg c11] at H
                exact absurd H (by simp)
              ·rw [if_neg c7] at H
               exact absurd H (by simp)
             ·rw [if_neg c6] at H
              have c6b0 : decide (x15_1 < (a1.size : Int)) = false := decide_eq_false c6
              clear c6
              simp only [Option.some.injEq, Prod.mk.injEq] at H
              obtain ⟨rfl, rfl⟩ := H
              go_wp2
              go_ret2
              exact ⟨_, rfl, HS.out, HB.out⟩
    · rw [if_neg c4] at h
      exact absurd h (by simp)
  · rw [if_neg c3] at h
    exact absurd h (by simp)
theorem impl_product.calls (k : Nat) (A0 : Option Addr) (c0 : Nat) (l0 : List (List (List Int))) (a1 : ByteArray) (r1 : List (List Int)) (r2 : Bool) (w : World) (hr0 : Kd.C (Kd.slice 48 (Kd.slice 2 (Kd.int .i64))) w A0 l0.length l0) (hc0 : l0.length ≤ c0) (h : impl_product.f k l0 a1 = some (r1, r2)) :
    Calls Try.prog 113 #[.slice A0 l0.length c0, .string a1] w fun e w' => ∃ v0_ : Value, e = .returned (.tuple #[v0_, .bool r2]) ∧ Kd.S (Kd.slice 2 (Kd.int .i64)) 48 w' w.heap.size (fun _ => True) v0_ r1 ∧ Below w.heap.size w w' := by
  refine (impl_product.callsS k A0 c0 l0 a1 r1 r2 w hr0 hc0 h).mono ?_
  rintro e w' ⟨v0_, he, hS, hB⟩
  exact ⟨v0_, he, Kd.S_mono hS (fun _ _ => trivial), hB⟩
/-! ### impl_reduced: function 159 -/
def impl_reduced.f (k : Nat) (a0 : Int) (a1 : Int) : Option (Int × Int × Bool) := (impl_common.f k a0 a1).bind fun t378 => (if a1 < 0 then (if (wrap64 (-t378)) = 0 then (none) else ((impl_IsFraction.f k (wrap64 (Int.tdiv a0 (wrap64 (-t378)))) (wrap64 (Int.tdiv a1 (wrap64 (-t378))))).bind fun t380 => (some (wrap64 (Int.tdiv a0 (wrap64 (-t378))), wrap64 (Int.tdiv a1 (wrap64 (-t378))), t380)))) else (if t378 = 0 then (none) else ((impl_IsFraction.f k (wrap64 (Int.tdiv a0 t378)) (wrap64 (Int.tdiv a1 t378))).bind fun t382 => (some (wrap64 (Int.tdiv a0 t378), wrap64 (Int.tdiv a1 t378), t382)))))
theorem impl_reduced.mono : ∀ a0 a1 k, LeO (impl_reduced.f k a0 a1) (impl_reduced.f (k + 1) a0 a1) := by
  intro a0 a1 k
  unfold impl_reduced.f
  repeat' first
      | (with_reducible exact impl_IsFraction.mono _ _ _)
      | (with_reducible exact impl_common.mono _ _ _)
      | (with_reducible exact LeO.refl _)
      | (with_reducible exact LeO.none _)
      | (with_reducible refine LeO.ite ?_ ?_)
      | (with_reducible refine LeO.bind ?_ (fun _ => ?_))
def impl_reduced.T4 : Bool × List (List Nat × List Nat) := (true, [([], []), ([], []), ([0, 1], [0, 1]), ([], []), ([], []), ([3, 4], [3, 4]), ([2, 5], [2, 5]), ([], []), ([7, 6, 0, 1, 2, 3, 4, 5, 6, 7], [6, 7])])
def impl_reduced.B4 : List Nat := [0, 0, 3, 0, 0, 24, 63, 0, 255]
theorem impl_reduced.tab4 : rtab .any (opsOf Try.f159 4) = impl_reduced.T4 := by kernel_rfl
theorem impl_reduced.bits4 : waitsOk impl_reduced.T4.2 impl_reduced.B4 = true := by kernel_rfl
set_option maxHeartbeats 8000000 in
set_option maxRecDepth 100000 in
theorem impl_reduced.calls (k : Nat) (a0 : Int) (a1 : Int) (r1 : Int) (r2 : Int) (r3 : Bool) (w : World) (h : impl_reduced.f k a0 a1 = some (r1, r2, r3)) :
    Calls Try.prog 159 #[.int .i64 a0, .int .i64 a1] w fun e w' => e = .returned (.tuple #[.agg #[.int .i64 r1, .int .i64 r2], .bool r3]) ∧ Below w.heap.size w w' := by
  have hu27 := Try.underlying27
  have HB := Aside0.mk (Below.refl w.heap.size w)
  have H : ((impl_common.f k a0 a1).bind fun t378 => (if a1 < 0 then (if (wrap64 (-t378)) = 0 then (none) else ((impl_IsFraction.f k (wrap64 (Int.tdiv a0 (wrap64 (-t378)))) (wrap64 (Int.tdiv a1 (wrap64 (-t378))))).bind fun t380 => (some (wrap64 (Int.tdiv a0 (wrap64 (-t378))), wrap64 (Int.tdiv a1 (wrap64 (-t378))), t380)))) else (if t378 = 0 then (none) else ((impl_IsFraction.f k (wrap64 (Int.tdiv a0 t378)) (wrap64 (Int.tdiv a1 t378))).bind fun t382 => (some (wrap64 (Int.tdiv a0 t378), wrap64 (Int.tdiv a1 t378), t382)))))) = some (r1, r2, r3) := h
  clear h
  replace H := Option.bind_eq_some_iff.mp H
  obtain ⟨t378, A30, H⟩ := H
  replace H : (if a1 < 0 then (if (wrap64 (-t378)) = 0 then (none) else ((impl_IsFraction.f k (wrap64 (Int.tdiv a0 (wrap64 (-t378)))) (wrap64 (Int.tdiv a1 (wrap64 (-t378))))).bind fun t380 => (some (wrap64 (Int.tdiv a0 (wrap64 (-t378))), wrap64 (Int.tdiv a1 (wrap64 (-t378))), t380)))) else (if t378 = 0 then (none) else ((impl_IsFraction.f k (wrap64 (Int.tdiv a0 t378)) (wrap64 (Int.tdiv a1 t378))).bind fun t382 => (some (wrap64 (Int.tdiv a0 t378), wrap64 (Int.tdiv a1 t378), t382))))) = some (r1, r2, r3) := H
  have A3 := Aside0.mk A30
  clear A30
  by_cases c4 : a1 < 0
  · rw [if_pos c4] at H
    have c4b0 : decide (a1 < 0) = true := decide_eq_true c4
    clear c4
    by_cases c5 : (wrap64 (-t378)) = 0
    · rw [if_pos c5] at H
      exact absurd H (by simp)
    · rw [if_neg c5] at H
      have c5b0 : ((wrap64 (-t378)) == 0) = false := beq_eq_false_iff_ne.mpr c5
      have c5b1 : ((wrap64 (-t378)) != 0) = true := bne_iff_ne.mpr c5
      replace H := Option.bind_eq_some_iff.mp H
      obtain ⟨t380, A60, H⟩ := H
      replace H : (some (wrap64 (Int.tdiv a0 (wrap64 (-t378))), wrap64 (Int.tdiv a1 (wrap64 (-t378))), t380)) = some (r1, r2, r3) := H
      have A6 := Aside0.mk A60
      clear A60
      simp only [Option.some.injEq, Prod.mk.injEq] at H
      obtain ⟨rfl, rfl, rfl⟩ := H
      go_enter Try.func159, Try.ntmps159
      try go_wp2_with (first | ((with_reducible refine gate_dst (N := 4) rfl ?_); refine box_event ?hg (N := 4) ?hd (cs := #[.int .i64 0, .int .i64 0]) (t := 27) ?hr ?_; (case hd => rfl); (case hg => rfl); (case hr => first | (go_simp; done) | (go_simp; rfl)); intro gb377 hg w7 hbox hb; have n0_ := Aside0.mk (below_step zB hb); have n1_ := Aside0.mk (hbox); have n2_ := Aside0.mk (zG : w.heap.size ≤ gb377); have n3_ := Aside0.mk (zG : w.heap.size ≤ gb377); clear HB; have HB := n0_; have BK377 := n1_; have GW377 := n2_; have GE377 := n3_; clear n0_ n1_ n2_ n3_; clear hb hbox hg) | ((with_reducible refine gate_callee (f := 158) rfl ?_); refine goesL_ (some 10) rfl rfl Try.func158 (by kernel_rfl) rfl #[.int .i64 a0, .int .i64 a1] rfl zM ?_; (with_reducible refine (impl_common.calls k a0 a1 t378 _ A3.out).mono ?_); rintro e w8 ⟨rfl, hb⟩; refine ⟨_, rfl, ?_⟩; have n0_ := Aside0.mk (blk_below (g := gb377) (o := .cells #[.int .i64 0, .int .i64 0] 27 (0, 0)) zK hb); have n1_ := Aside0.mk (below_step zB hb); clear BK377; clear HB; have BK377 := n0_; have HB := n1_; clear n0_ n1_; (try clear hb); (try clear hb2); (try clear hk); (try clear hi)))
      have n0_ := Aside0.mk (blk_drew BK377.out)
      have n1_ := Aside0.mk (below_drew1 HB.out)
      clear BK377
      clear HB
      have BK377 := n0_
      have HB := n1_
      clear n0_ n1_
      refine start_ (n := 9) (S := fun w' => True) (ds := []) #[false, false, false, false, false, false, false, false, false] (by kernel_rfl) rfl rfl trivial (fun hHeld => ?_); refine with_tabW impl_reduced.tab4 impl_reduced.bits4 (fun HT_ HW_ => ?_)
      generalize w8.drew = w9 at BK377 HB hHeld ⊢
      refine zP 0 (N := some 15) (h := ?_)
      refine zP 1 (N := some 16) (h := ?_)
      refine zP 2 (N := some 17) (h := ?_)
      refine zP 3 (N := some 18) (h := ?_)
      refine zP 4 (N := some 19) (h := ?_)
      refine zP 5 (N := some 20) (h := ?_)
      refine zP 6 (N := some 21) (h := ?_)
      refine one_ (i := 7) (N := some 7) #[true, true, true, true, true, true, true, true, false] rfl rfl (one_of HT_.out (by kernel_rfl)) (by decide) (fun K hK => ?_)
      refine box_step ?hg (N := 7) ?hd (cs := #[.int .i64 0, .int .i64 0]) (t := 27) ?hr ?_; (case hd => rfl); (case hg => rfl); (case hr => first | (go_simp; done) | (go_simp; rfl))
      intro gb379 hg w10 hbox hb
      have n0_ := Aside0.mk (blk_below (g := gb377) (o := .cells #[.int .i64 0, .int .i64 0] 27 (0, 0)) zK hb)
      have n1_ := Aside0.mk (below_step zB hb)
      have n2_ := Aside0.mk (hbox)
      have n3_ := Aside0.mk (zG : w.heap.size ≤ gb379)
      have n4_ := Aside0.mk (zG : w.heap.size ≤ gb379)
      have n5_ := Aside0.mk ((by rw [hg]; exact Nat.ne_of_lt (blk_lt (g := gb377) (o := .cells #[.int .i64 0, .int .i64 0] 27 (0, 0)) zK) : gb377 ≠ gb379))
      have n6_ := Aside0.mk ((by rw [hg]; exact Nat.ne_of_gt (blk_lt (g := gb377) (o := .cells #[.int .i64 0, .int .i64 0] 27 (0, 0)) zK) : gb379 ≠ gb377))
      clear BK377
      clear HB
      have BK377 := n0_
      have HB := n1_
      have BK379 := n2_
      have GW379 := n3_
      have GE379 := n4_
      have NB377_379 := n5_
      have NB379_377 := n6_
      clear n0_ n1_ n2_ n3_ n4_ n5_ n6_
      clear hb hbox hg
      refine hK.out _ _ trivial (fun hHeld => ?_)
      clear hK K
      refine norm_ (a' := ?_) ?_ ?_
      rotate_left
      · show Act.put _ (some 7) _ = _
        simp only [Act.put, List.setIfInBounds_toArray, List.set_cons_zero, List.set_cons_succ, i64_w, i32_w]
        rfl
      refine one_ (i := 8) (N := none) #[true, true, true, true, true, true, true, true, true] rfl rfl (one_of HT_.out (by kernel_rfl)) (by decide) (fun K hK => ?_)
      have hs11 : w10.cell? ⟨gb379, 0, none⟩ = some (.int .i64 0) := (blk_cell BK379.out 0).trans rfl
      have hfs11 := blk_frozen BK379.out 0
      have hns11_0 := NB377_379.out
      have hms11_0 := NB379_377.out
      have hs12 : w10.cell? ⟨gb379, 1, none⟩ = some (.int .i64 0) := (blk_cell BK379.out 1).trans rfl
      have hfs12 := blk_frozen BK379.out 1
      have hns12_0 := NB377_379.out
      have hms12_0 := NB379_377.out
      refine skip_ (w1 := ?_) (by rfl) rfl ?_ ?_
      rotate_left
      · go_simp
        rfl
      refine hK.out _ _ trivial (fun hHeld => ?_)
      clear hK K
      refine done_ (done_of HT_.out (by kernel_rfl)) ?_
      try go_wp2
      have n0_ : Aside0 (((w10.setCell ⟨gb379, 0, none⟩ (.int .i64 (wrap64 (Int.tdiv a0 (wrap64 (-t378)))))).setCell ⟨gb379, 1, none⟩ (.int .i64 (wrap64 (Int.tdiv a1 (wrap64 (-t378)))))).heap[gb377]? = some (.cells #[.int .i64 0, .int .i64 0] 27 (0, 0))) := ⟨by (with_reducible repeat (first | refine blk_drewN ?_ _ | refine blk_drew ?_ | refine blk_alloc ?_ _)); refine blk_far ?_ NB377_379.out _; (with_reducible repeat (first | refine blk_drewN ?_ _ | refine blk_drew ?_ | refine blk_alloc ?_ _)); refine blk_far ?_ NB377_379.out _; (with_reducible repeat (first | refine blk_drewN ?_ _ | refine blk_drew ?_ | refine blk_alloc ?_ _)); exact BK377.out⟩
      have n1_ : Aside0 (((w10.setCell ⟨gb379, 0, none⟩ (.int .i64 (wrap64 (Int.tdiv a0 (wrap64 (-t378)))))).setCell ⟨gb379, 1, none⟩ (.int .i64 (wrap64 (Int.tdiv a1 (wrap64 (-t378)))))).heap[gb379]? = some (.cells #[.int .i64 (wrap64 (Int.tdiv a0 (wrap64 (-t378)))), .int .i64 (wrap64 (Int.tdiv a1 (wrap64 (-t378))))] 27 (0, 0))) := ⟨by (with_reducible repeat (first | refine blk_drewN ?_ _ | refine blk_drew ?_ | refine blk_alloc ?_ _)); refine blk_put (cs := #[.int .i64 (wrap64 (Int.tdiv a0 (wrap64 (-t378)))), .int .i64 0]) ?_ 1 _ rfl; (with_reducible repeat (first | refine blk_drewN ?_ _ | refine blk_drew ?_ | refine blk_alloc ?_ _)); refine blk_put (cs := #[.int .i64 0, .int .i64 0]) ?_ 0 _ rfl; (with_reducible repeat (first | refine blk_drewN ?_ _ | refine blk_drew ?_ | refine blk_alloc ?_ _)); exact BK379.out⟩
      have n2_ : Aside0 (Below w.heap.size w ((w10.setCell ⟨gb379, 0, none⟩ (.int .i64 (wrap64 (Int.tdiv a0 (wrap64 (-t378)))))).setCell ⟨gb379, 1, none⟩ (.int .i64 (wrap64 (Int.tdiv a1 (wrap64 (-t378))))))) := ⟨zB⟩
      (try clear BK377)
      (try clear BK379)
      (try clear HB)
      generalize ((w10.setCell ⟨gb379, 0, none⟩ (.int .i64 (wrap64 (Int.tdiv a0 (wrap64 (-t378)))))).setCell ⟨gb379, 1, none⟩ (.int .i64 (wrap64 (Int.tdiv a1 (wrap64 (-t378)))))) = w13 at n0_ n1_ n2_ ⊢
      have BK377 := n0_
      have BK379 := n1_
      have HB := n2_
      clear n0_ n1_ n2_
      have n0_ := Aside0.mk (blk_drew BK377.out)
      have n1_ := Aside0.mk (blk_drew BK379.out)
      have n2_ := Aside0.mk (below_drew1 HB.out)
      clear BK377
      clear BK379
      clear HB
      have BK377 := n0_
      have BK379 := n1_
      have HB := n2_
      clear n0_ n1_ n2_
      refine start_ (n := 5) (S := fun w' => w'.cell? ⟨gb379, 0, none⟩ = some (.int .i64 (wrap64 (Int.tdiv a0 (wrap64 (-t378))))) ∧ w'.cell? ⟨gb379, 1, none⟩ = some (.int .i64 (wrap64 (Int.tdiv a1 (wrap64 (-t378)))))) (ds := []) #[false, false, false, false, false] (by kernel_rfl) rfl rfl ⟨(blk_cell BK379.out 0).trans rfl, (blk_cell BK379.out 1).trans rfl⟩ (fun hHeld => ?_)
      generalize w13.drew = w14 at BK377 BK379 HB hHeld ⊢
      refine zT 0 hHeld (N := some 22) (h := ?_)
      refine zT 1 hHeld (N := some 23) (h := ?_)
      refine one_ (i := 2) (N := some 24) #[true, true, true, false, false] rfl rfl (by kernel_rfl) (by decide) (fun K hK => ?_)
      refine goes_ Try.func154 (by kernel_rfl) rfl #[.agg #[.int .i64 (wrap64 (Int.tdiv a0 (wrap64 (-t378)))), .int .i64 (wrap64 (Int.tdiv a1 (wrap64 (-t378))))]] (by rfl) rfl rfl zM ?_
      with_reducible refine (impl_IsFraction.calls k (wrap64 (Int.tdiv a0 (wrap64 (-t378)))) (wrap64 (Int.tdiv a1 (wrap64 (-t378)))) t380 _ A6.out).mono ?_
      rintro e w15 ⟨rfl, hb⟩
      refine ⟨_, rfl, ?_⟩
      have n0_ := Aside0.mk (blk_below (g := gb377) (o := .cells #[.int .i64 0, .int .i64 0] 27 (0, 0)) zK hb)
      have n1_ := Aside0.mk (blk_below (g := gb379) (o := .cells #[.int .i64 (wrap64 (Int.tdiv a0 (wrap64 (-t378)))), .int .i64 (wrap64 (Int.tdiv a1 (wrap64 (-t378))))] 27 (0, 0)) zK hb)
      have n2_ := Aside0.mk (below_step zB hb)
      clear BK377
      clear BK379
      clear HB
      have BK377 := n0_
      have BK379 := n1_
      have HB := n2_
      clear n0_ n1_ n2_
      (try clear hb)
      (try clear hb2)
      (try clear hk)
      (try clear hi)
      refine hK.out _ _ ⟨(blk_cell BK379.out 0).trans rfl, (blk_cell BK379.out 1).trans rfl⟩ (fun hHeld => ?_)
      clear hK K
      refine norm_ (a' := ?_) ?_ ?_
      rotate_left
      · show Act.put _ (some 24) _ = _
        simp only [Act.put, List.setIfInBounds_toArray, List.set_cons_zero, List.set_cons_succ, i64_w, i32_w]
        rfl
      refine one_ (i := 3) (N := none) #[true, true, true, true, false] rfl rfl (by kernel_rfl) (by decide) (fun K hK => ?_)
      have hs16 : w15.cell? ⟨gb377, 0, none⟩ = some (.int .i64 0) := (blk_cell BK377.out 0).trans rfl
      have hfs16 := blk_frozen BK377.out 0
      have hns16_1 := NB379_377.out
      have hms16_1 := NB377_379.out
      have hs17 : w15.cell? ⟨gb377, 1, none⟩ = some (.int .i64 0) := (blk_cell BK377.out 1).trans rfl
      have hfs17 := blk_frozen BK377.out 1
      have hns17_1 := NB379_377.out
      have hms17_1 := NB377_379.out
      refine skip_ (w1 := ?_) (by rfl) rfl ?_ ?_
      rotate_left
      · go_simp
        rfl
      refine hK.out _ _ ⟨((cell_far (p := ⟨gb377, _, none⟩) NB379_377.out _).trans (((cell_far (p := ⟨gb377, _, none⟩) NB379_377.out _).trans (hHeld.1)))), ((cell_far (p := ⟨gb377, _, none⟩) NB379_377.out _).trans (((cell_far (p := ⟨gb377, _, none⟩) NB379_377.out _).trans (hHeld.2))))⟩ (fun hHeld => ?_)
      clear hK K
      refine zP 4 (N := some 5) (h := ?_)
      refine done_ (by kernel_rfl) ?_
      try go_wp2
      refine bodyPost_ret (results_ct rfl _ _ gb377 27 #[.int .i64 (wrap64 (Int.tdiv a0 (wrap64 (-t378)))), .int .i64 (wrap64 (Int.tdiv a1 (wrap64 (-t378))))] (0, 0) _ rfl (by (with_reducible repeat (first | refine blk_drewN ?_ _ | refine blk_drew ?_ | refine blk_alloc ?_ _)); refine blk_put (cs := #[.int .i64 (wrap64 (Int.tdiv a0 (wrap64 (-t378)))), .int .i64 0]) ?_ 1 _ rfl; (with_reducible repeat (first | refine blk_drewN ?_ _ | refine blk_drew ?_ | refine blk_alloc ?_ _)); refine blk_put (cs := #[.int .i64 0, .int .i64 0]) ?_ 0 _ rfl; exact zK) Try.underlying27 rfl (by kernel_rfl)) rfl ?_
      exact ⟨by first | rfl | (simp [errW_none, errW_some] <;> rfl) | (simp [*, errW_none, errW_some] <;> rfl), zB⟩
  · rw [if_neg c4] at H
    have c4b0 : decide (a1 < 0) = false := decide_eq_false c4
    clear c4
    by_cases c18 : t378 = 0
    · rw [if_pos c18] at H
      exact absurd H (by simp)
    · rw [if_neg c18] at H
      have c18b0 : (t378 == 0) = false := beq_eq_false_iff_ne.mpr c18
      have c18b1 : (t378 != 0) = true := bne_iff_ne.mpr c18
      replace H := Option.bind_eq_some_iff.mp H
      obtain ⟨t382, A190, H⟩ := H
      replace H : (some (wrap64 (Int.tdiv a0 t378), wrap64 (Int.tdiv a1 t378), t382)) = some (r1, r2, r3) := H
      have A19 := Aside0.mk A190
      clear A190
      simp only [Option.some.injEq, Prod.mk.injEq] at H
      obtain ⟨rfl, rfl, rfl⟩ := H
      go_enter Try.func159, Try.ntmps159
      try go_wp2_with (first | ((with_reducible refine gate_dst (N := 4) rfl ?_); refine box_event ?hg (N := 4) ?hd (cs := #[.int .i64 0, .int .i64 0]) (t := 27) ?hr ?_; (case hd => rfl); (case hg => rfl); (case hr => first | (go_simp; done) | (go_simp; rfl)); intro gb377 hg w20 hbox hb; have n0_ := Aside0.mk (below_step zB hb); have n1_ := Aside0.mk (hbox); have n2_ := Aside0.mk (zG : w.heap.size ≤ gb377); have n3_ := Aside0.mk (zG : w.heap.size ≤ gb377); clear HB; have HB := n0_; have BK377 := n1_; have GW377 := n2_; have GE377 := n3_; clear n0_ n1_ n2_ n3_; clear hb hbox hg) | ((with_reducible refine gate_callee (f := 158) rfl ?_); refine goesL_ (some 10) rfl rfl Try.func158 (by kernel_rfl) rfl #[.int .i64 a0, .int .i64 a1] rfl zM ?_; (with_reducible refine (impl_common.calls k a0 a1 t378 _ A3.out).mono ?_); rintro e w21 ⟨rfl, hb⟩; refine ⟨_, rfl, ?_⟩; have n0_ := Aside0.mk (blk_below (g := gb377) (o := .cells #[.int .i64 0, .int .i64 0] 27 (0, 0)) zK hb); have n1_ := Aside0.mk (below_step zB hb); clear BK377; clear HB; have BK377 := n0_; have HB := n1_; clear n0_ n1_; (try clear hb); (try clear hb2); (try clear hk); (try clear hi)))
      have n0_ := Aside0.mk (blk_drew BK377.out)
      have n1_ := Aside0.mk (below_drew1 HB.out)
      clear BK377
      clear HB
      have BK377 := n0_
      have HB := n1_
      clear n0_ n1_
      refine start_ (n := 9) (S := fun w' => True) (ds := []) #[false, false, false, false, false, false, false, false, false] (by kernel_rfl) rfl rfl trivial (fun hHeld => ?_); refine with_tabW impl_reduced.tab4 impl_reduced.bits4 (fun HT_ HW_ => ?_)
      generalize w21.drew = w22 at BK377 HB hHeld ⊢
      refine zP 0 (N := some 15) (h := ?_)
      refine zP 1 (N := some 16) (h := ?_)
      refine zP 2 (N := some 17) (h := ?_)
      refine zP 3 (N := some 18) (h := ?_)
      refine zP 4 (N := some 19) (h := ?_)
      refine zP 5 (N := some 20) (h := ?_)
      refine zP 6 (N := some 21) (h := ?_)
      refine one_ (i := 7) (N := some 7) #[true, true, true, true, true, true, true, true, false] rfl rfl (one_of HT_.out (by kernel_rfl)) (by decide) (fun K hK => ?_)
      refine box_step ?hg (N := 7) ?hd (cs := #[.int .i64 0, .int .i64 0]) (t := 27) ?hr ?_; (case hd => rfl); (case hg => rfl); (case hr => first | (go_simp; done) | (go_simp; rfl))
      intro gb381 hg w23 hbox hb
      have n0_ := Aside0.mk (blk_below (g := gb377) (o := .cells #[.int .i64 0, .int .i64 0] 27 (0, 0)) zK hb)
      have n1_ := Aside0.mk (below_step zB hb)
      have n2_ := Aside0.mk (hbox)
      have n3_ := Aside0.mk (zG : w.heap.size ≤ gb381)
      have n4_ := Aside0.mk (zG : w.heap.size ≤ gb381)
      have n5_ := Aside0.mk ((by rw [hg]; exact Nat.ne_of_lt (blk_lt (g := gb377) (o := .cells #[.int .i64 0, .int .i64 0] 27 (0, 0)) zK) : gb377 ≠ gb381))
      have n6_ := Aside0.mk ((by rw [hg]; exact Nat.ne_of_gt (blk_lt (g := gb377) (o := .cells #[.int .i64 0, .int .i64 0] 27 (0, 0)) zK) : gb381 ≠ gb377))
      clear BK377
      clear HB
      have BK377 := n0_
      have HB := n1_
      have BK381 := n2_
      have GW381 := n3_
      have GE381 := n4_
      have NB377_381 := n5_
      have NB381_377 := n6_
      clear n0_ n1_ n2_ n3_ n4_ n5_ n6_
      clear hb hbox hg
      refine hK.out _ _ trivial (fun hHeld => ?_)
      clear hK K
      refine norm_ (a' := ?_) ?_ ?_
      rotate_left
      · show Act.put _ (some 7) _ = _
        simp only [Act.put, List.setIfInBounds_toArray, List.set_cons_zero, List.set_cons_succ, i64_w, i32_w]
        rfl
      refine one_ (i := 8) (N := none) #[true, true, true, true, true, true, true, true, true] rfl rfl (one_of HT_.out (by kernel_rfl)) (by decide) (fun K hK => ?_)
      have hs24 : w23.cell? ⟨gb381, 0, none⟩ = some (.int .i64 0) := (blk_cell BK381.out 0).trans rfl
      have hfs24 := blk_frozen BK381.out 0
      have hns24_0 := NB377_381.out
      have hms24_0 := NB381_377.out
      have hs25 : w23.cell? ⟨gb381, 1, none⟩ = some (.int .i64 0) := (blk_cell BK381.out 1).trans rfl
      have hfs25 := blk_frozen BK381.out 1
      have hns25_0 := NB377_381.out
      have hms25_0 := NB381_377.out
      refine skip_ (w1 := ?_) (by rfl) rfl ?_ ?_
      rotate_left
      · go_simp
        rfl
      refine hK.out _ _ trivial (fun hHeld => ?_)
      clear hK K
      refine done_ (done_of HT_.out (by kernel_rfl)) ?_
      try go_wp2
      have n0_ : Aside0 (((w23.setCell ⟨gb381, 0, none⟩ (.int .i64 (wrap64 (Int.tdiv a0 t378)))).setCell ⟨gb381, 1, none⟩ (.int .i64 (wrap64 (Int.tdiv a1 t378)))).heap[gb377]? = some (.cells #[.int .i64 0, .int .i64 0] 27 (0, 0))) := ⟨by (with_reducible repeat (first | refine blk_drewN ?_ _ | refine blk_drew ?_ | refine blk_alloc ?_ _)); refine blk_far ?_ NB377_381.out _; (with_reducible repeat (first | refine blk_drewN ?_ _ | refine blk_drew ?_ | refine blk_alloc ?_ _)); refine blk_far ?_ NB377_381.out _; (with_reducible repeat (first | refine blk_drewN ?_ _ | refine blk_drew ?_ | refine blk_alloc ?_ _)); exact BK377.out⟩
      have n1_ : Aside0 (((w23.setCell ⟨gb381, 0, none⟩ (.int .i64 (wrap64 (Int.tdiv a0 t378)))).setCell ⟨gb381, 1, none⟩ (.int .i64 (wrap64 (Int.tdiv a1 t378)))).heap[gb381]? = some (.cells #[.int .i64 (wrap64 (Int.tdiv a0 t378)), .int .i64 (wrap64 (Int.tdiv a1 t378))] 27 (0, 0))) := ⟨by (with_reducible repeat (first | refine blk_drewN ?_ _ | refine blk_drew ?_ | refine blk_alloc ?_ _)); refine blk_put (cs := #[.int .i64 (wrap64 (Int.tdiv a0 t378)), .int .i64 0]) ?_ 1 _ rfl; (with_reducible repeat (first | refine blk_drewN ?_ _ | refine blk_drew ?_ | refine blk_alloc ?_ _)); refine blk_put (cs := #[.int .i64 0, .int .i64 0]) ?_ 0 _ rfl; (with_reducible repeat (first | refine blk_drewN ?_ _ | refine blk_drew ?_ | refine blk_alloc ?_ _)); exact BK381.out⟩
      have n2_ : Aside0 (Below w.heap.size w ((w23.setCell ⟨gb381, 0, none⟩ (.int .i64 (wrap64 (Int.tdiv a0 t378)))).setCell ⟨gb381, 1, none⟩ (.int .i64 (wrap64 (Int.tdiv a1 t378))))) := ⟨zB⟩
      (try clear BK377)
      (try clear BK381)
      (try clear HB)
      generalize ((w23.setCell ⟨gb381, 0, none⟩ (.int .i64 (wrap64 (Int.tdiv a0 t378)))).setCell ⟨gb381, 1, none⟩ (.int .i64 (wrap64 (Int.tdiv a1 t378)))) = w26 at n0_ n1_ n2_ ⊢
      have BK377 := n0_
      have BK381 := n1_
      have HB := n2_
      clear n0_ n1_ n2_
      have n0_ := Aside0.mk (blk_drew BK377.out)
      have n1_ := Aside0.mk (blk_drew BK381.out)
      have n2_ := Aside0.mk (below_drew1 HB.out)
      clear BK377
      clear BK381
      clear HB
      have BK377 := n0_
      have BK381 := n1_
      have HB := n2_
      clear n0_ n1_ n2_
      refine start_ (n := 5) (S := fun w' => w'.cell? ⟨gb381, 0, none⟩ = some (.int .i64 (wrap64 (Int.tdiv a0 t378))) ∧ w'.cell? ⟨gb381, 1, none⟩ = some (.int .i64 (wrap64 (Int.tdiv a1 t378)))) (ds := []) #[false, false, false, false, false] (by kernel_rfl) rfl rfl ⟨(blk_cell BK381.out 0).trans rfl, (blk_cell BK381.out 1).trans rfl⟩ (fun hHeld => ?_)
      generalize w26.drew = w27 at BK377 BK381 HB hHeld ⊢
      refine zT 0 hHeld (N := some 22) (h := ?_)
      refine zT 1 hHeld (N := some 23) (h := ?_)
      refine one_ (i := 2) (N := some 24) #[true, true, true, false, false] rfl rfl (by kernel_rfl) (by decide) (fun K hK => ?_)
      refine goes_ Try.func154 (by kernel_rfl) rfl #[.agg #[.int .i64 (wrap64 (Int.tdiv a0 t378)), .int .i64 (wrap64 (Int.tdiv a1 t378))]] (by rfl) rfl rfl zM ?_
      with_reducible refine (impl_IsFraction.calls k (wrap64 (Int.tdiv a0 t378)) (wrap64 (Int.tdiv a1 t378)) t382 _ A19.out).mono ?_
      rintro e w28 ⟨rfl, hb⟩
      refine ⟨_, rfl, ?_⟩
      have n0_ := Aside0.mk (blk_below (g := gb377) (o := .cells #[.int .i64 0, .int .i64 0] 27 (0, 0)) zK hb)
      have n1_ := Aside0.mk (blk_below (g := gb381) (o := .cells #[.int .i64 (wrap64 (Int.tdiv a0 t378)), .int .i64 (wrap64 (Int.tdiv a1 t378))] 27 (0, 0)) zK hb)
      have n2_ := Aside0.mk (below_step zB hb)
      clear BK377
      clear BK381
      clear HB
      have BK377 := n0_
      have BK381 := n1_
      have HB := n2_
      clear n0_ n1_ n2_
      (try clear hb)
      (try clear hb2)
      (try clear hk)
      (try clear hi)
      refine hK.out _ _ ⟨(blk_cell BK381.out 0).trans rfl, (blk_cell BK381.out 1).trans rfl⟩ (fun hHeld => ?_)
      clear hK K
      refine norm_ (a' := ?_) ?_ ?_
      rotate_left
      · show Act.put _ (some 24) _ = _
        simp only [Act.put, List.setIfInBounds_toArray, List.set_cons_zero, List.set_cons_succ, i64_w, i32_w]
        rfl
      refine one_ (i := 3) (N := none) #[true, true, true, true, false] rfl rfl (by kernel_rfl) (by decide) (fun K hK => ?_)
      have hs29 : w28.cell? ⟨gb377, 0, none⟩ = some (.int .i64 0) := (blk_cell BK377.out 0).trans rfl
      have hfs29 := blk_frozen BK377.out 0
      have hns29_1 := NB381_377.out
      have hms29_1 := NB377_381.out
      have hs30 : w28.cell? ⟨gb377, 1, none⟩ = some (.int .i64 0) := (blk_cell BK377.out 1).trans rfl
      have hfs30 := blk_frozen BK377.out 1
      have hns30_1 := NB381_377.out
      have hms30_1 := NB377_381.out
      refine skip_ (w1 := ?_) (by rfl) rfl ?_ ?_
      rotate_left
      · go_simp
        rfl
      refine hK.out _ _ ⟨((cell_far (p := ⟨gb377, _, none⟩) NB381_377.out _).trans (((cell_far (p := ⟨gb377, _, none⟩) NB381_377.out _).trans (hHeld.1)))), ((cell_far (p := ⟨gb377, _, none⟩) NB381_377.out _).trans (((cell_far (p := ⟨gb377, _, none⟩) NB381_377.out _).trans (hHeld.2))))⟩ (fun hHeld => ?_)
      clear hK K
      refine zP 4 (N := some 5) (h := ?_)
      refine done_ (by kernel_rfl) ?_
      try go_wp2
      refine bodyPost_ret (results_ct rfl _ _ gb377 27 #[.int .i64 (wrap64 (Int.tdiv a0 t378)), .int .i64 (wrap64 (Int.tdiv a1 t378))] (0, 0) _ rfl (by (with_reducible repeat (first | refine blk_drewN ?_ _ | refine blk_drew ?_ | refine blk_alloc ?_ _)); refine blk_put (cs := #[.int .i64 (wrap64 (Int.tdiv a0 t378)), .int .i64 0]) ?_ 1 _ rfl; (with_reducible repeat (first | refine blk_drewN ?_ _ | refine blk_drew ?_ | refine blk_alloc ?_ _)); refine blk_put (cs := #[.int .i64 0, .int .i64 0]) ?_ 0 _ rfl; exact zK) Try.underlying27 rfl (by kernel_rfl)) rfl ?_
      exact ⟨by first | rfl | (simp [errW_none, errW_some] <;> rfl) | (simp [*, errW_none, errW_some] <;> rfl), zB⟩
end Go.Proofs.Ytcklefgkbddlhaa.P
