/- What a call of each Go function named below comes to is what the plain Lean function beside it says. Made by a program of this session out of the print of the translation; Lean checks it. -/
import Derived.Test.YtkbneilobaehkaaPx0
import Derived.Test.YtkbneilobaehkaaPx4
import Derived.Test.YtkbneilobaehkaaPx6
import Derived.Test.YtkbneilobaehkaaHandRows
namespace Go.Proofs.Ytkbneilobaehkaa.P
open Go.RowKit Go.Proofs.YtkbneilobaehkaaW.PrintWords Go.Proofs.YtkbneilobaehkaaW.PrintLast Go.Proofs.YtkbneilobaehkaaW.PrintMore
attribute [local go_sem] max2_int min2_int max_two min_two max_three min_three max_four min_four   -- for this text's walks alone
set_option linter.unusedVariables false
set_option linter.unusedSimpArgs false
set_option maxHeartbeats 8000000
set_option maxRecDepth 100000


/-! ### impl_product: function 47, by hand -/
set_option maxHeartbeats 2000000 in
theorem impl_product_ask (A : Option Addr) (c : Nat) (x : List Int) (W : World) (hr : (Kd.int .i64).C W A x.length x) (hx : x.length ≤ c) :
 Calls Try.prog 89 #[.slice A x.length c] W fun e w' => e = .returned (.bool (!(!(x.any fun n => !(Hand.upToB n 1000000000))))) ∧ Below W.heap.size W w' := by
 have HR := zA hr
 have HX := zA hx
 clear hr hx
 generalize hQ : (!(x.any fun n => !(Hand.upToB n 1000000000))) = Q
 have HA := zA (show impl_allUpTo.f x 1000000000 = some Q from by rw [← hQ]; rfl)
 clear hQ
 go_enter Try.func89, Try.ntmps89
 go_wp2_with (go_at_call 90; refine (impl_allUpTo.calls A c x 1000000000 Q _ HR.out HX.out HA.out).mono ?_; rintro e w' ⟨rfl, hb⟩)
 go_ret
 exact ⟨rfl, hb⟩
/-- Is an entry too great? -/
def impl_product.over (t : List (List Int)) : Bool := t.any fun x => !(!(x.any fun n => !(Hand.upToB n 1000000000)))
/-- The first i entries of the diagonal are 1. -/
def impl_product.diag : Nat → List (List Int) → List (List Int)
 | 0, t => t
 | i + 1, t => (impl_product.diag i t).set i (((impl_product.diag i t).getD i []).set i 1)
theorem impl_product.diag_len (i : Nat) (t : List (List Int)) : (impl_product.diag i t).length = t.length := by
 induction i with
 | zero => rfl
 | succ i ih => rw [impl_product.diag, List.length_set, ih]
theorem impl_product.diag_row (i : Nat) (t : List (List Int)) (j : Nat) : ((impl_product.diag i t).getD j []).length = (t.getD j []).length := by
 induction i with
 | zero => rfl
 | succ i ih =>
  rw [impl_product.diag, ← ih]
  simp only [List.getD_eq_getElem?_getD, List.getElem?_set]
  by_cases e : i = j
  ·subst e
   by_cases h : i < (impl_product.diag i t).length
   ·simp [h]
   ·simp [h]
  ·simp [e]
def impl_product.l0 : Nat → List (List (List Int)) → ByteArray → List (List Int) → Int → Int → Option ((List (List Int)) × Bool)
 | 0, _, _, _, _, _ => none
 | k + 1, x0, x1, x6, x14, x15 => if x15 < x14 then (if 0 ≤ x15 then (if x15 < (x1.size : Int) then (if 0 ≤ (((bt x1 x15) - 48) % 256) then (if (((bt x1 x15) - 48) % 256) < (x0.length : Int) then ((impl_timesMatrix.f k x6 (rd_L4 x0 (((bt x1 x15) - 48) % 256))).bind fun t277 => (if impl_product.over t277 = true then (some (([] : List (List Int)), false)) else (impl_product.l0 k x0 x1 t277 x14 (wrap64 (x15 + 1))))) else (none)) else (none)) else (none)) else (none)) else (some (x6, true))
def impl_product.f (k : Nat) (l0 : List (List (List Int))) (a1 : ByteArray) : Option ((List (List Int)) × Bool) := if 0 < (l0.length : Int) then ((impl_square.f k ((rd_L4 l0 0).length : Int)).bind fun t273 => (if (∀ j, j < t273.length → t273.length ≤ (t273.getD j []).length) then (impl_product.l0 k l0 a1 (impl_product.diag t273.length t273) (a1.size : Int) 0) else none)) else (none)
theorem impl_product.mono_l : ∀ k, (∀ y0 y1 y2 y3 y4, LeO (impl_product.l0 k y0 y1 y2 y3 y4) (impl_product.l0 (k + 1) y0 y1 y2 y3 y4))
 | 0 => fun _ _ _ _ _ r h => by simp [impl_product.l0] at h
 | k + 1 => by
  have ih0 := impl_product.mono_l k
  ·intro y0 y1 y2 y3 y4
   unfold impl_product.l0
   repeat' first
   | (with_reducible exact ih0 _ _ _ _ _)
   | (with_reducible exact impl_timesMatrix.mono _ _ _)
   | (with_reducible exact LeO.refl _)
   | (with_reducible exact LeO.none _)
   | (with_reducible refine LeO.ite ?_ ?_)
   | (with_reducible refine LeO.bind ?_ (fun _ => ?_))
theorem impl_product.mono : ∀ a0 a1 k, LeO (impl_product.f k a0 a1) (impl_product.f (k + 1) a0 a1) := by
 intro a0 a1 k
 have ih0 := impl_product.mono_l k
 unfold impl_product.f
 repeat' first
  | (with_reducible exact ih0 _ _ _ _ _)
  | (with_reducible exact impl_square.mono _ _)
  | (with_reducible exact LeO.refl _)
  | (with_reducible exact LeO.none _)
  | (with_reducible refine LeO.ite ?_ ?_)
  | (with_reducible refine LeO.bind ?_ (fun _ => ?_))
theorem impl_product.callsS (k : Nat) (A0 : Option Addr) (c0 : Nat) (l0 : List (List (List Int))) (a1 : ByteArray) (r1 : List (List Int)) (r2 : Bool) (w : World) (hr0 : Kd.C (Kd.slice 45 (Kd.slice 2 (Kd.int .i64))) w A0 l0.length l0) (hc0 : l0.length ≤ c0) (h : impl_product.f k l0 a1 = some (r1, r2)) :
 Calls Try.prog 47 #[.slice A0 l0.length c0, .string a1] w fun e w' => ∃ v0_ : Value, e = .returned (.tuple #[v0_, .bool r2]) ∧ Kd.S (Kd.slice 2 (Kd.int .i64)) 45 w' w.heap.size (fun k_ => (w.heap.size ≤ k_)) v0_ r1 ∧ Below w.heap.size w w' := by
 have HR0 := zA hr0
 have HC0 := zA hc0
 clear hr0 hc0
 have eg := enters_of Try.func89 (by kernel_rfl) rfl
 unfold impl_product.f at h
 by_cases c3 : 0 < (l0.length : Int)
 ·rw [if_pos c3] at h
  obtain ⟨t273, A4, h⟩ := Option.bind_eq_some_iff.mp h
  by_cases c4 : ∀ j, j < t273.length → t273.length ≤ (t273.getD j []).length
  ·rw [if_pos c4] at h
   have A4 := zA A4
   have H' := zA h
   have C4 := zA c4
   clear h c4
   obtain ⟨ad272, A272_0, c272_0, e272, hx272_0, hl272_0, hi272_0⟩ := at_L4 HR0.out 0 (by omega) c3
   cases e272
   have qi272 : (0 < l0.length) = True := eq_true (by omega)
   (try rw [show ((0 : Int)).toNat = 0 from rfl] at hx272_0)
   (try rw [Addr.add_zero'] at hx272_0)
   clear hi272_0 hl272_0 c3
   go_enter Try.func47, Try.ntmps47
   go_wp2_with (go_at_call 86; refine (impl_square.calls k ((rd_L4 l0 0).length : Int) t273 _ A4.out).mono ?_; rintro e w5 ⟨v274, rfl, ho0, hb⟩; have HS := zA (Kd.S_mono (ok' := fun k_ => (w.heap.size ≤ k_)) (Kd.S_bound ho0) (fun k_ hk_ => hk_.2.1)); have HB := zA hb; clear ho0 hb; obtain ⟨Aq, cq, eq0⟩ := Kd.S_slice HS.out; subst eq0)
   go_loopg [16] t273.length (fun gg s16 wr => ∃ i : Nat, i ≤ t273.length ∧ t273.length - i ≤ gg ∧ s16 = .int .i64 i ∧ Aside0 (Kd.S (Kd.slice 2 (Kd.int .i64)) 45 wr w.heap.size (fun k_ => (w.heap.size ≤ k_)) (.slice Aq t273.length cq) (impl_product.diag i t273)) ∧ Aside0 (Below w.heap.size w wr))
   case atStart => exact ⟨0, Nat.zero_le _, by omega, rfl, ⟨HS.out⟩, HB⟩
   case round =>
    clear HS HB
    obtain ⟨i, hi, hg, rfl, HS, HB⟩ := hrel
    have hln := impl_product.diag_len i t273
    have hmax := Kd.C_max (Kd.S_reads' HS.out).2.2
    rw [hln] at hmax
    by_cases hlt : i < t273.length
    ·have hltz : (i : Int) < (t273.length : Int) := by omega
     obtain ⟨g, cap, e1, hg1, hg2, cells, hcells⟩ := Kd.S_form HS.out (by omega)
     injection e1 with e1 e2 e3
     subst e1 e3
     clear e2
     obtain ⟨oki, cs, hcs, hM, hcell, hoki, hback⟩ := Kd.S_borrow HS.out ([] : List Int) (i : Int) (by omega) (by omega)
     have hrow := impl_product.diag_row i t273 i
     have hbig := C4.out i hlt
     rw [Int.toNat_natCast] at hM hcell hback
     generalize hy : (impl_product.diag i t273).getD i [] = y at hM hrow
     obtain ⟨v', rfl, hR⟩ := hM
     have hcellv := hcell 0 v' rfl
     obtain ⟨g', cap', e4, hg3, hg4, cells', hcells'⟩ := Kd.R_form hR (by omega)
     subst e4
     have hcell0 : wr.cell? ⟨g, i, none⟩ = some (.slice (some ⟨g', 0, none⟩) y.length cap') := by
      have : i * (Kd.slice 2 (Kd.int .i64)).sz + 0 = i := by show i * 1 + 0 = i; omega
      rw [this, add_at, Nat.zero_add] at hcellv; exact hcellv
     have hyz : (i : Int) < (y.length : Int) := by omega
     obtain ⟨hx9_0, hf9_0⟩ := Kd.R_celln 0 hR (i : Int) (by omega) (by omega)
     have HP := Kd.R_putg hR (i : Int) 1
     rw [Int.toNat_natCast] at HP hx9_0 hf9_0
     have HBK := zA (hback (x' := y.set i 1) HP.2 (fun k_ hk_ => hR.1 k_ (by rw [← hk_]; rfl)) ⟨_, rfl, HP.1⟩)
     have HG := zA HP.2
     have HBASE := zA hg3
     have HY := zA hy
     clear hback hcell hcellv hoki hcs hcells hcells' hR HP hy hg1 hg2 hg4 hbig hrow
     go_wp2_with ((with_reducible refine gate_store (t := 2) (p := 24) rfl ?_); refine store_event (t := 2) (p := 24) (v := ?vo) (w1 := (wr.setCell ⟨g', i, none⟩ (.int .i64 1))) ?hg ?ho ?hn ?hr ?_; (case ho => rfl); (case hg => rfl); (case hn => rfl); (case hr => (go_simp; done)); intro w14 hw)
     go_roundg (t273.length - (i + 1))
     case measure => omega
     case rel =>
      refine ⟨i + 1, by omega, by omega, by go_num, ⟨?_⟩, ⟨?_⟩⟩
      ·rw [impl_product.diag, HY.out]
       exact HBK.out
      ·exact below_set HB.out HBASE.out
    ·have hltz : ¬ (i : Int) < (t273.length : Int) := by omega
     obtain rfl : i = t273.length := by omega
     clear hltz hlt hg hi
     generalize impl_product.diag t273.length t273 = u at H' HS hln
     go_wp2
     clear hln hmax
     go_loopg [6, 28] k (fun kq v6 v28 w' => ∃ (x6_1 : List (List Int)) (x15_1 : Int), v28 = .int .i64 x15_1 ∧ Aside0 (impl_product.l0 kq l0 a1 x6_1 (a1.size : Int) x15_1 = some (r1, r2)) ∧ Aside0 (kq ≤ k) ∧ Aside0 (Kd.S (Kd.slice 2 (Kd.int .i64)) 45 w' w.heap.size (fun k_ => (w.heap.size ≤ k_)) v6 x6_1) ∧ Aside0 (Below w.heap.size w w'))
     case atStart => exact ⟨u, 0, rfl, H', ⟨Nat.le_refl _⟩, HS, HB⟩
     case round =>
      clear H' HS HB
      obtain ⟨x6_1, x15_1, rfl, HA, HK1, HS, HB⟩ := hrel
      cases gk with
      | zero => exact absurd HA.out (by simp [impl_product.l0])
      | succ k1 =>
       have H := HA.out
       clear HA
       simp only [impl_product.l0] at H
       obtain ⟨Ax, cx, eqx⟩ := Kd.S_slice HS.out
       subst eqx
       by_cases c6 : x15_1 < (a1.size : Int)
       ·rw [if_pos c6] at H
        by_cases c7 : 0 ≤ x15_1
        ·rw [if_pos c7, if_pos c6] at H
         obtain ⟨ji10, hji10⟩ : ∃ j_ : Int, (((bt a1 x15_1) - 48) % 256) = j_ := ⟨_, rfl⟩
         rw [hji10] at H
         by_cases c11 : 0 ≤ ji10
         ·rw [if_pos c11] at H
          by_cases c12 : ji10 < (l0.length : Int)
          ·rw [if_pos c12] at H
           obtain ⟨t277, A13, H⟩ := Option.bind_eq_some_iff.mp H
           have A13 := zA A13
           have c6b0 : decide (x15_1 < (a1.size : Int)) = true := decide_eq_true c6
           have c11b0 : decide (0 ≤ ji10) = true := decide_eq_true c11
           have c12b0 : decide (ji10 < (l0.length : Int)) = true := decide_eq_true c12
           have p9 : (0 ≤ x15_1) = True := eq_true c7
           have q9 : (x15_1 < (a1.size : Int)) = True := eq_true c6
           have hx9 := bt_at a1 x15_1
           obtain ⟨ad276, A276_0, c276_0, e276, hx276_0, hl276_0, hi276_0⟩ := at_L4 HR0.out ji10 c11 c12
           obtain rfl : ad272 = ad276 := (by injection e276)
           replace hx276_0 := zH HB hx276_0
           have HR276_0 := zA hi276_0
           have HC276_0 := zA hl276_0
           have p276 : (0 ≤ ji10) = True := eq_true c11
           have q276 : (ji10 < (l0.length : Int)) = True := eq_true c12
           clear hi276_0 hl276_0 c6 c7 c11 c12 e276
           by_cases hQ : impl_product.over t277 = true
           ·rw [if_pos hQ] at H
            simp only [Option.some.injEq, Prod.mk.injEq] at H
            obtain ⟨rfl, rfl⟩ := H
            have HQ := zA (show (t277.any fun x => !(!(x.any fun n => !(Hand.upToB n 1000000000)))) = true from hQ)
            clear hQ
            go_wp2_with (first | (go_at_call 87; with_reducible refine (impl_timesMatrix.callsS k1 _ _ x6_1 _ _ (rd_L4 l0 ji10) t277 _ (Kd.S_reads' HS.out).2.2 (Kd.S_reads' HS.out).2.1 (Kd.C_below HR276_0.out HB.out) HC276_0.out A13.out).mono ?_; rintro e w17 ⟨v278, rfl, ho0, hb⟩; have HS2 := zA (Kd.S_lower (Kd.S_mono (ok' := fun k_ => (w.heap.size ≤ k_)) ho0 (fun k_ hk_ => Nat.le_trans HB.out.size hk_)) HB.out.size); have HB2 := zA (below_step HB.out hb); clear ho0 hb; obtain ⟨Ay, cy, eqy⟩ := Kd.S_slice HS2.out; subst eqy) | (go_at_call 88; refine (Hand.containsFunc_rows 89 #[] eg (fun x => !(!(x.any fun n => !(Hand.upToB n 1000000000)))) Ay cy t277 _ (fun A c x W hb hC hx => impl_product_ask A c x W hC hx) (Kd.S_reads' HS2.out).2.2).mono ?_; rw [HQ.out]; rintro e w18 ⟨rfl, hb2⟩))
            go_ret2
            exact ⟨_, rfl, Kd.S_nil _ _ _ _ _, below_step HB2.out hb2⟩
           ·rw [if_neg hQ] at H
            have HQ := zA (show (t277.any fun x => !(!(x.any fun n => !(Hand.upToB n 1000000000)))) = false from Bool.eq_false_iff.mpr hQ)
            have H' := zA H
            clear hQ H
            go_wp2_with (first | (go_at_call 87; with_reducible refine (impl_timesMatrix.callsS k1 _ _ x6_1 _ _ (rd_L4 l0 ji10) t277 _ (Kd.S_reads' HS.out).2.2 (Kd.S_reads' HS.out).2.1 (Kd.C_below HR276_0.out HB.out) HC276_0.out A13.out).mono ?_; rintro e w17 ⟨v278, rfl, ho0, hb⟩; have HS2 := zA (Kd.S_lower (Kd.S_mono (ok' := fun k_ => (w.heap.size ≤ k_)) ho0 (fun k_ hk_ => Nat.le_trans HB.out.size hk_)) HB.out.size); have HB2 := zA (below_step HB.out hb); clear ho0 hb; obtain ⟨Ay, cy, eqy⟩ := Kd.S_slice HS2.out; subst eqy) | (go_at_call 88; refine (Hand.containsFunc_rows 89 #[] eg (fun x => !(!(x.any fun n => !(Hand.upToB n 1000000000)))) Ay cy t277 _ (fun A c x W hb hC hx => impl_product_ask A c x W hC hx) (Kd.S_reads' HS2.out).2.2).mono ?_; rw [HQ.out]; rintro e w18 ⟨rfl, hb2⟩))
            go_roundg k1
            case measure => have := HK1.out; omega
            case rel => exact ⟨t277, wrap64 (x15_1 + 1), rfl, H', ⟨by have := HK1.out; omega⟩, ⟨Kd.S_below HS2.out hb2⟩, ⟨below_step HB2.out hb2⟩⟩
          ·rw [if_neg c12] at H
           exact absurd H (by simp)
         ·rw [if_neg c11] at H
          exact absurd H (by simp)
        ·rw [if_neg c7] at H
         exact absurd H (by simp)
       ·rw [if_neg c6] at H
        have c6b0 : decide (x15_1 < (a1.size : Int)) = false := decide_eq_false c6
        clear c6
        simp only [Option.some.injEq, Prod.mk.injEq] at H
        obtain ⟨rfl, rfl⟩ := H
        go_wp2
        go_ret2
        exact ⟨_, rfl, HS.out, HB.out⟩
  ·rw [if_neg c4] at h
   exact absurd h (by simp)
 ·rw [if_neg c3] at h
  exact absurd h (by simp)
theorem impl_product.calls (k : Nat) (A0 : Option Addr) (c0 : Nat) (l0 : List (List (List Int))) (a1 : ByteArray) (r1 : List (List Int)) (r2 : Bool) (w : World) (hr0 : Kd.C (Kd.slice 45 (Kd.slice 2 (Kd.int .i64))) w A0 l0.length l0) (hc0 : l0.length ≤ c0) (h : impl_product.f k l0 a1 = some (r1, r2)) :
 Calls Try.prog 47 #[.slice A0 l0.length c0, .string a1] w fun e w' => ∃ v0_ : Value, e = .returned (.tuple #[v0_, .bool r2]) ∧ Kd.N (Kd.slice 2 (Kd.int .i64)) 45 w' w.heap.size (fun k_ => (w.heap.size ≤ k_)) v0_ r1 ∧ Below w.heap.size w w' := by
 refine (impl_product.callsS k A0 c0 l0 a1 r1 r2 w hr0 hc0 h).mono ?_
 rintro e w' ⟨v0_, he, hS, hB⟩
 exact ⟨v0_, he, Kd.S_N hS, hB⟩


/-! ### impl_ProductOfWord: function 8 -/
def impl_ProductOfWord.j0 : Nat → List (List (List Int)) → ByteArray → Bool → Option ((List (List Int)) × Int)
 | 0, _, _, _ => none
 | k + 1, x1, x2, x19 => if x19 = true then (some (([] : List (List Int)), 1)) else (if (x2.size : Int) > 5 then (some (([] : List (List Int)), 2)) else ((impl_product.f k x1 x2).bind fun bt250 => (if bt250.2 = true then (some (bt250.1, 0)) else (some (([] : List (List Int)), 3)))))
def impl_ProductOfWord.f (k : Nat) (a0 : Int) (l1 : List (List (List Int))) (a2 : ByteArray) : Option ((List (List Int)) × Int) := (impl_AreTables.f a0 l1).bind fun t248 => (if t248 = true then ((impl_isWord.f k a0 a2 1099511627776).bind fun t249 => (impl_ProductOfWord.j0 k l1 a2 (!t249))) else (impl_ProductOfWord.j0 k l1 a2 true))
theorem impl_ProductOfWord.mono_l : ∀ k, (∀ y0 y1 y2, LeO (impl_ProductOfWord.j0 k y0 y1 y2) (impl_ProductOfWord.j0 (k + 1) y0 y1 y2))
 | 0 => fun _ _ _ r h => by simp [impl_ProductOfWord.j0] at h
 | k + 1 => by
  have ih0 := impl_ProductOfWord.mono_l k
  ·intro y0 y1 y2
   unfold impl_ProductOfWord.j0
   repeat' first
   | (with_reducible exact ih0 _ _ _)
   | (with_reducible exact impl_isWord.mono _ _ _ _)
   | (with_reducible exact impl_product.mono _ _ _)
   | (with_reducible exact LeO.refl _)
   | (with_reducible exact LeO.none _)
   | (with_reducible refine LeO.ite ?_ ?_)
   | (with_reducible refine LeO.bind ?_ (fun _ => ?_))
theorem impl_ProductOfWord.mono : ∀ a0 a1 a2 k, LeO (impl_ProductOfWord.f k a0 a1 a2) (impl_ProductOfWord.f (k + 1) a0 a1 a2) := by
 intro a0 a1 a2 k
 have ih0 := impl_ProductOfWord.mono_l k
 unfold impl_ProductOfWord.f
 repeat' first
  | (with_reducible exact ih0 _ _ _)
  | (with_reducible exact impl_isWord.mono _ _ _ _)
  | (with_reducible exact impl_product.mono _ _ _)
  | (with_reducible exact LeO.refl _)
  | (with_reducible exact LeO.none _)
  | (with_reducible refine LeO.ite ?_ ?_)
  | (with_reducible refine LeO.bind ?_ (fun _ => ?_))
theorem impl_ProductOfWord.callsS (k : Nat) (a0 : Int) (A1 : Option Addr) (c1 : Nat) (l1 : List (List (List Int))) (a2 : ByteArray) (r1 : List (List Int)) (r2 : Int) (w : World) (hr1 : Kd.C (Kd.slice 45 (Kd.slice 2 (Kd.int .i64))) w A1 l1.length l1) (hc1 : l1.length ≤ c1) (h : impl_ProductOfWord.f k a0 l1 a2 = some (r1, r2)) :
 Calls Try.prog 8 #[.int .i64 a0, .slice A1 l1.length c1, .string a2] w fun e w' => ∃ v0_ : Value, e = .returned (.tuple #[v0_, .int .i64 r2]) ∧ Kd.S (Kd.slice 2 (Kd.int .i64)) 45 w' w.heap.size (fun k_ => (w.heap.size ≤ k_)) v0_ r1 ∧ Below w.heap.size w w' := by
 have HR1 := zA hr1
 have HC1 := zA hc1
 clear hr1 hc1
 have HB := zA (Below.refl w.heap.size w)
 have H : ((impl_AreTables.f a0 l1).bind fun t248 => (if t248 = true then ((impl_isWord.f k a0 a2 1099511627776).bind fun t249 => (impl_ProductOfWord.j0 k l1 a2 (!t249))) else (impl_ProductOfWord.j0 k l1 a2 true))) = some (r1, r2) := h
 clear h
 have HC4 := zA H
 clear H
 go_enter Try.func8, Try.ntmps8
 go_upto_region 1 with (fail)
 go_cut [19] (fun v19 wc => ∃ (kq : Nat) (x19_3 : Bool), v19 = .bool x19_3 ∧ Aside0 (impl_ProductOfWord.j0 kq l1 a2 x19_3 = some (r1, r2)) ∧ Aside0 (kq ≤ k) ∧ Aside0 (Below w.heap.size w wc))
 case first =>
  have H := HC4.out
  clear HC4
  replace H := Option.bind_eq_some_iff.mp H
  obtain ⟨t248, A50, H⟩ := H
  replace H : (if t248 = true then ((impl_isWord.f k a0 a2 1099511627776).bind fun t249 => (impl_ProductOfWord.j0 k l1 a2 (!t249))) else (impl_ProductOfWord.j0 k l1 a2 true)) = some (r1, r2) := H
  have A5 := zA A50
  clear A50
  by_cases c6 : t248 = true
  ·subst c6
   have H1 : ((impl_isWord.f k a0 a2 1099511627776).bind fun t249 => (impl_ProductOfWord.j0 k l1 a2 (!t249))) = some (r1, r2) := by rw [if_pos rfl] at H; exact H
   clear H
   have H := H1
   clear H1
   replace H := Option.bind_eq_some_iff.mp H
   obtain ⟨t249, A70, H⟩ := H
   replace H : (impl_ProductOfWord.j0 k l1 a2 (!t249)) = some (r1, r2) := H
   have A7 := zA A70
   clear A70
   have H' := zA H
   clear H
   go_wp2_with (first | ((with_reducible refine gate_callee (f := 11) rfl ?_); refine goesL_ (some 12) rfl rfl Try.func11 (by kernel_rfl) rfl #[.int .i64 a0, .slice A1 l1.length c1] rfl zM ?_; (with_reducible refine (impl_AreTables.calls a0 _ _ l1 true _ ?side1 ?side2 A5.out).mono ?_); (case side1 => repeat (exact (Kd.C_below HR1.out HB.out))); (case side2 => exact HC1.out); rintro e w8 ⟨rfl, hb⟩; refine ⟨_, rfl, ?_⟩; replace HB := zA (below_step zB hb); (try clear hb); (try clear hb2); (try clear hk); (try clear hi)) | (go_at_call 46; (with_reducible refine (impl_isWord.calls k a0 a2 1099511627776 t249 _ A7.out).mono ?_); rintro e w' ⟨rfl, ⟨nd, rfl⟩⟩))
   go_meet
   case rel => exact ⟨_, (!t249), (by rfl), H', ⟨by omega⟩, ⟨zB⟩⟩
  ·replace c6 := Bool.eq_false_iff.mpr c6
   subst c6
   have H1 : (impl_ProductOfWord.j0 k l1 a2 true) = some (r1, r2) := by rw [if_neg (show ¬ (false = true) by decide)] at H; exact H
   clear H
   have H := H1
   clear H1
   have H' := zA H
   clear H
   go_wp2_with (first | ((with_reducible refine gate_callee (f := 11) rfl ?_); refine goesL_ (some 12) rfl rfl Try.func11 (by kernel_rfl) rfl #[.int .i64 a0, .slice A1 l1.length c1] rfl zM ?_; (with_reducible refine (impl_AreTables.calls a0 _ _ l1 false _ ?side1 ?side2 A5.out).mono ?_); (case side1 => repeat (exact (Kd.C_below HR1.out HB.out))); (case side2 => exact HC1.out); rintro e w9 ⟨rfl, hb⟩; refine ⟨_, rfl, ?_⟩; replace HB := zA (below_step zB hb); (try clear hb); (try clear hb2); (try clear hk); (try clear hi)))
   go_meet
   case rel => exact ⟨_, (true), (by rfl), H', ⟨by omega⟩, ⟨zB⟩⟩
 case rest =>
  clear HC4
  obtain ⟨kq, x19_3, rfl, HA, HJ3, HB⟩ := hcut
  cases kq with
  | zero => exact absurd HA.out (by simp [impl_ProductOfWord.j0])
  | succ kj3 =>
   have H := HA.out
   clear HA
   simp only [impl_ProductOfWord.j0] at H
   by_cases c10 : x19_3 = true
   ·subst c10
    have H1 : (some (([] : List (List Int)), 1)) = some (r1, r2) := by rw [if_pos rfl] at H; exact H
    clear H
    have H := H1
    clear H1
    simp only [Option.some.injEq, Prod.mk.injEq] at H
    obtain ⟨rfl, rfl⟩ := H
    go_wp2
    go_ret2
    exact ⟨_, by rfl, by exact Kd.S_nil _ _ _ _ _, zB⟩
   ·replace c10 := Bool.eq_false_iff.mpr c10
    subst c10
    have H1 : (if (a2.size : Int) > 5 then (some (([] : List (List Int)), 2)) else ((impl_product.f kj3 l1 a2).bind fun bt250 => (if bt250.2 = true then (some (bt250.1, 0)) else (some (([] : List (List Int)), 3))))) = some (r1, r2) := by rw [if_neg (show ¬ (false = true) by decide)] at H; exact H
    clear H
    have H := H1
    clear H1
    by_cases c11 : (a2.size : Int) > 5
    ·rw [if_pos c11] at H
     have c11b0 : decide (5 < (a2.size : Int)) = true := decide_eq_true c11
     have c11b1 : decide (5 < a2.size) = true := decide_eq_true (by omega)
     clear c11
     simp only [Option.some.injEq, Prod.mk.injEq] at H
     obtain ⟨rfl, rfl⟩ := H
     go_wp2
     go_ret2
     exact ⟨_, by rfl, by exact Kd.S_nil _ _ _ _ _, zB⟩
    ·rw [if_neg c11] at H
     have c11b0 : decide (5 < (a2.size : Int)) = false := decide_eq_false c11
     have c11b1 : decide (5 < a2.size) = false := decide_eq_false (by omega)
     clear c11
     replace H := Option.bind_eq_some_iff.mp H
     obtain ⟨⟨t250, t253⟩, A120, H⟩ := H
     replace H : (if t253 = true then (some (t250, 0)) else (some (([] : List (List Int)), 3))) = some (r1, r2) := H
     have A12 := zA A120
     clear A120
     by_cases c13 : t253 = true
     ·subst c13
      have H1 : (some (t250, 0)) = some (r1, r2) := by rw [if_pos rfl] at H; exact H
      clear H
      have H := H1
      clear H1
      simp only [Option.some.injEq, Prod.mk.injEq] at H
      obtain ⟨rfl, rfl⟩ := H
      go_wp2_with (first | ((with_reducible refine gate_callee (f := 47) rfl ?_); refine goesL_ (some 26) rfl rfl Try.func47 (by kernel_rfl) rfl #[.slice A1 l1.length c1, .string a2] rfl zM ?_; (with_reducible refine (impl_product.callsS kj3 _ _ l1 a2 t250 true _ ?side1 ?side2 A12.out).mono ?_); (case side1 => repeat (exact (Kd.C_below HR1.out HB.out))); (case side2 => exact HC1.out); rintro e w14 ⟨v251, rfl, ho0, hb⟩; refine ⟨_, rfl, ?_⟩; have HO252 := zA (Kd.S_lower (Kd.S_mono (ok' := fun k_ => (w.heap.size ≤ k_)) ho0 (fun k_ hk_ => (Nat.le_trans (below_size zB) hk_))) (below_size zB)); replace HB := zA (below_step zB hb); (try clear hb); (try clear hb2); (try clear hk); (try clear hi); (try clear ho0)))
      go_ret2
      exact ⟨_, by rfl, zS, zB⟩
     ·replace c13 := Bool.eq_false_iff.mpr c13
      subst c13
      have H1 : (some (([] : List (List Int)), 3)) = some (r1, r2) := by rw [if_neg (show ¬ (false = true) by decide)] at H; exact H
      clear H
      have H := H1
      clear H1
      simp only [Option.some.injEq, Prod.mk.injEq] at H
      obtain ⟨rfl, rfl⟩ := H
      go_wp2_with (first | ((with_reducible refine gate_callee (f := 47) rfl ?_); refine goesL_ (some 26) rfl rfl Try.func47 (by kernel_rfl) rfl #[.slice A1 l1.length c1, .string a2] rfl zM ?_; (with_reducible refine (impl_product.callsS kj3 _ _ l1 a2 t250 false _ ?side1 ?side2 A12.out).mono ?_); (case side1 => repeat (exact (Kd.C_below HR1.out HB.out))); (case side2 => exact HC1.out); rintro e w15 ⟨v251, rfl, ho0, hb⟩; refine ⟨_, rfl, ?_⟩; have HO252 := zA (Kd.S_lower (Kd.S_mono (ok' := fun k_ => (w.heap.size ≤ k_)) ho0 (fun k_ hk_ => (Nat.le_trans (below_size zB) hk_))) (below_size zB)); replace HB := zA (below_step zB hb); (try clear hb); (try clear hb2); (try clear hk); (try clear hi); (try clear ho0)))
      go_ret2
      exact ⟨_, by rfl, by exact Kd.S_nil _ _ _ _ _, zB⟩
set_option maxHeartbeats 1000000 in
theorem impl_ProductOfWord.calls (k : Nat) (a0 : Int) (A1 : Option Addr) (c1 : Nat) (l1 : List (List (List Int))) (a2 : ByteArray) (r1 : List (List Int)) (r2 : Int) (w : World) (hr1 : Kd.C (Kd.slice 45 (Kd.slice 2 (Kd.int .i64))) w A1 l1.length l1) (hc1 : l1.length ≤ c1) (h : impl_ProductOfWord.f k a0 l1 a2 = some (r1, r2)) :
 Calls Try.prog 8 #[.int .i64 a0, .slice A1 l1.length c1, .string a2] w fun e w' => ∃ v0_ : Value, e = .returned (.tuple #[v0_, .int .i64 r2]) ∧ Kd.N (Kd.slice 2 (Kd.int .i64)) 45 w' w.heap.size (fun k_ => (w.heap.size ≤ k_)) v0_ r1 ∧ Below w.heap.size w w' := by
 refine (impl_ProductOfWord.callsS k a0 A1 c1 l1 a2 r1 r2 w hr1 hc1 h).mono ?_
 rintro e w' ⟨v0_, he, hS, hB⟩
 exact ⟨v0_, he, Kd.S_N hS, hB⟩


/-! ### spec_l01In: function 61 -/
def spec_l01In.f (a0 : Int) (a1 : Int) (a2 : Int) : Option (Bool) := if a0 ≥ a1 then (some (decide (a0 ≤ a2))) else (some false)
theorem spec_l01In.calls (a0 : Int) (a1 : Int) (a2 : Int) (r : Bool) (w : World) (h : spec_l01In.f a0 a1 a2 = some r) :
 Calls Try.prog 61 #[.int .i64 a0, .int .i64 a1, .int .i64 a2] w fun e w' => e = .returned (.bool r) ∧ Drawn0 w w' := by
 have H : (if a0 ≥ a1 then (some (decide (a0 ≤ a2))) else (some false)) = some r := h
 clear h
 by_cases c4 : a0 ≥ a1
 ·rw [if_pos c4] at H
  have c4b0 : decide (a1 ≤ a0) = true := decide_eq_true c4
  clear c4
  obtain rfl := Option.some.inj H
  go_enter Try.func61, Try.ntmps61
  go_wp2
  go_ret
  exact ⟨by rfl, by repeat (exact Drawn0.refl _)⟩
 ·rw [if_neg c4] at H
  have c4b0 : decide (a1 ≤ a0) = false := decide_eq_false c4
  clear c4
  obtain rfl := Option.some.inj H
  go_enter Try.func61, Try.ntmps61
  go_wp2
  go_ret
  exact ⟨by rfl, by repeat (exact Drawn0.refl _)⟩

end Go.Proofs.Ytkbneilobaehkaa.P
