/- What a call of each Go function named below comes to is what the plain Lean function beside it says. Made by a program of this session out of the print of the translation; Lean checks it. -/
import Derived.Test.YtbpipmkgclkhgaaPx0
import Derived.Test.YtbpipmkgclkhgaaPx1
import Derived.Test.YtbpipmkgclkhgaaPx2
import Derived.Test.YtbpipmkgclkhgaaPx7
import Derived.Test.YtbpipmkgclkhgaaPx8
import Derived.Test.YtbpipmkgclkhgaaPx9
import Derived.Test.YtbpipmkgclkhgaaHandRows
namespace Go.Proofs.Ytbpipmkgclkhgaa.P
open Go.RowKit Go.Proofs.YtbpipmkgclkhgaaW.PrintWords Go.Proofs.YtbpipmkgclkhgaaW.PrintLast Go.Proofs.YtbpipmkgclkhgaaW.PrintMore
attribute [local go_sem] max2_int min2_int max_two min_two max_three min_three max_four min_four   -- for this text's walks alone
set_option linter.unusedVariables false
set_option linter.unusedSimpArgs false


/-! ### impl_product: function 70, by hand -/
set_option maxHeartbeats 2000000 in
theorem impl_product_ask (A : Option Addr) (c : Nat) (x : List Int) (W : World) (hr : (Kd.int .i64).C W A x.length x) (hx : x.length ≤ c) :
    Calls Try.prog 107 #[.slice A x.length c] W fun e w' => e = .returned (.bool (!(!(x.any fun n => !(Hand.upToB n 1000000000))))) ∧ Below W.heap.size W w' := by
  have HR := Aside0.mk hr
  have HX := Aside0.mk hx
  clear hr hx
  generalize hQ : (!(x.any fun n => !(Hand.upToB n 1000000000))) = Q
  have HA := Aside0.mk (show impl_allUpTo.f x 1000000000 = some Q from by rw [← hQ]; rfl)
  clear hQ
  go_enter Try.func107, Try.ntmps107
  go_wp2_with (go_at_call 99; refine (impl_allUpTo.calls A c x 1000000000 Q _ HR.out HX.out HA.out).mono ?_; rintro e w' ⟨rfl, hb⟩)
  go_ret
  exact ⟨rfl, hb⟩
/-- Is an entry too great? -/
def impl_product.over (t : List (List Int)) : Bool := t.any fun x => !(!(x.any fun n => !(Hand.upToB n 1000000000)))
/-- The first i entries of the diagonal are 1. -/
def impl_product.diag : Nat → List (List Int) → List (List Int)
  | 0, t => t
  | i + 1, t => (impl_product.diag i t).set i (((impl_product.diag i t).getD i []).set i 1)
theorem impl_product.diag_len (i : Nat) (t : List (List Int)) : (impl_product.diag i t).length = t.length := by
  induction i with
  | zero => rfl
  | succ i ih => rw [impl_product.diag, List.length_set, ih]
theorem impl_product.diag_row (i : Nat) (t : List (List Int)) (j : Nat) : ((impl_product.diag i t).getD j []).length = (t.getD j []).length := by
  induction i with
  | zero => rfl
  | succ i ih =>
    rw [impl_product.diag, ← ih]
    simp only [List.getD_eq_getElem?_getD, List.getElem?_set]
    by_cases e : i = j
    · subst e
      by_cases h : i < (impl_product.diag i t).length
      · simp [h]
      · simp [h]
    · simp [e]
def impl_product.l0 : Nat → List (List (List Int)) → ByteArray → List (List Int) → Int → Int → Option ((List (List Int)) × Bool)
  | 0, _, _, _, _, _ => none
  | k + 1, x0, x1, x6, x14, x15 => if x15 < x14 then (if 0 ≤ x15 then (if x15 < (x1.size : Int) then (if 0 ≤ (((bt x1 x15) - 48) % 256) then (if (((bt x1 x15) - 48) % 256) < (x0.length : Int) then ((impl_timesMatrix.f k x6 (rd_L2 x0 (((bt x1 x15) - 48) % 256))).bind fun t277 => (if impl_product.over t277 = true then (some (([] : List (List Int)), false)) else (impl_product.l0 k x0 x1 t277 x14 (wrap64 (x15 + 1))))) else (none)) else (none)) else (none)) else (none)) else (some (x6, true))
def impl_product.f (k : Nat) (l0 : List (List (List Int))) (a1 : ByteArray) : Option ((List (List Int)) × Bool) := if 0 < (l0.length : Int) then ((impl_square.f k ((rd_L2 l0 0).length : Int)).bind fun t273 => (if (∀ j, j < t273.length → t273.length ≤ (t273.getD j []).length) then (impl_product.l0 k l0 a1 (impl_product.diag t273.length t273) (a1.size : Int) 0) else none)) else (none)
theorem impl_product.mono_l : ∀ k, (∀ y0 y1 y2 y3 y4, LeO (impl_product.l0 k y0 y1 y2 y3 y4) (impl_product.l0 (k + 1) y0 y1 y2 y3 y4))
  | 0 => fun _ _ _ _ _ r h => by simp [impl_product.l0] at h
  | k + 1 => by
    have ih0 := impl_product.mono_l k
    · intro y0 y1 y2 y3 y4
      unfold impl_product.l0
      repeat' first
      | (with_reducible exact ih0 _ _ _ _ _)
      | (with_reducible exact impl_timesMatrix.mono _ _ _)
      | (with_reducible exact LeO.refl _)
      | (with_reducible exact LeO.none _)
      | (with_reducible refine LeO.ite ?_ ?_)
      | (with_reducible refine LeO.bind ?_ (fun _ => ?_))
theorem impl_product.mono : ∀ a0 a1 k, LeO (impl_product.f k a0 a1) (impl_product.f (k + 1) a0 a1) := by
  intro a0 a1 k
  have ih0 := impl_product.mono_l k
  unfold impl_product.f
  repeat' first
      | (with_reducible exact ih0 _ _ _ _ _)
      | (with_reducible exact impl_square.mono _ _)
      | (with_reducible exact LeO.refl _)
      | (with_reducible exact LeO.none _)
      | (with_reducible refine LeO.ite ?_ ?_)
      | (with_reducible refine LeO.bind ?_ (fun _ => ?_))
set_option maxHeartbeats 8000000 in
set_option maxRecDepth 100000 in
theorem impl_product.callsS (k : Nat) (A0 : Option Addr) (c0 : Nat) (l0 : List (List (List Int))) (a1 : ByteArray) (r1 : List (List Int)) (r2 : Bool) (w : World) (hr0 : Kd.C (Kd.slice 44 (Kd.slice 2 (Kd.int .i64))) w A0 l0.length l0) (hc0 : l0.length ≤ c0) (h : impl_product.f k l0 a1 = some (r1, r2)) :
    Calls Try.prog 70 #[.slice A0 l0.length c0, .string a1] w fun e w' => ∃ v0_ : Value, e = .returned (.tuple #[v0_, .bool r2]) ∧ Kd.S (Kd.slice 2 (Kd.int .i64)) 44 w' w.heap.size (fun k_ => (w.heap.size ≤ k_)) v0_ r1 ∧ Below w.heap.size w w' := by
  have HR0 := Aside0.mk hr0
  have HC0 := Aside0.mk hc0
  clear hr0 hc0
  have eg := enters_of Try.func107 (by kernel_rfl) rfl
  unfold impl_product.f at h
  by_cases c3 : 0 < (l0.length : Int)
  · rw [if_pos c3] at h
    obtain ⟨t273, A4, h⟩ := Option.bind_eq_some_iff.mp h
    by_cases c4 : ∀ j, j < t273.length → t273.length ≤ (t273.getD j []).length
    · rw [if_pos c4] at h
      have A4 := Aside0.mk A4
      have H' := Aside0.mk h
      have C4 := Aside0.mk c4
      clear h c4
      obtain ⟨ad272, A272_0, c272_0, e272, hx272_0, hl272_0, hi272_0⟩ := at_L2 HR0.out 0 (by omega) c3
      cases e272
      have qi272 : (0 < l0.length) = True := eq_true (by omega)
      (try rw [show ((0 : Int)).toNat = 0 from rfl] at hx272_0)
      (try rw [Addr.add_zero'] at hx272_0)
      clear hi272_0 hl272_0 c3
      go_enter Try.func70, Try.ntmps70
      go_wp2_with (go_at_call 100; refine (impl_square.calls k ((rd_L2 l0 0).length : Int) t273 _ A4.out).mono ?_; rintro e w5 ⟨v274, rfl, ho0, hb⟩; have HS := Aside0.mk (Kd.S_mono (ok' := fun k_ => (w.heap.size ≤ k_)) (Kd.S_bound ho0) (fun k_ hk_ => hk_.2.1)); have HB := Aside0.mk hb; clear ho0 hb; obtain ⟨Aq, cq, eq0⟩ := Kd.S_slice HS.out; subst eq0)
      go_loopg [16] t273.length (fun gg s16 wr => ∃ i : Nat, i ≤ t273.length ∧ t273.length - i ≤ gg ∧ s16 = .int .i64 i ∧ Aside0 (Kd.S (Kd.slice 2 (Kd.int .i64)) 44 wr w.heap.size (fun k_ => (w.heap.size ≤ k_)) (.slice Aq t273.length cq) (impl_product.diag i t273)) ∧ Aside0 (Below w.heap.size w wr))
      case atStart => exact ⟨0, Nat.zero_le _, by omega, rfl, ⟨HS.out⟩, HB⟩
      case round =>
        clear HS HB
        obtain ⟨i, hi, hg, rfl, HS, HB⟩ := hrel
        have hln := impl_product.diag_len i t273
        have hmax := Kd.C_max (Kd.S_reads' HS.out).2.2
        rw [hln] at hmax
        by_cases hlt : i < t273.length
        · have hltz : (i : Int) < (t273.length : Int) := by omega
          obtain ⟨g, cap, e1, hg1, hg2, cells, hcells⟩ := Kd.S_form HS.out (by omega)
          injection e1 with e1 e2 e3
          subst e1 e3
          clear e2
          obtain ⟨oki, cs, hcs, hM, hcell, hoki, hback⟩ := Kd.S_borrow HS.out ([] : List Int) (i : Int) (by omega) (by omega)
          have hrow := impl_product.diag_row i t273 i
          have hbig := C4.out i hlt
          rw [Int.toNat_natCast] at hM hcell hback
          generalize hy : (impl_product.diag i t273).getD i [] = y at hM hrow
          obtain ⟨v', rfl, hR⟩ := hM
          have hcellv := hcell 0 v' rfl
          obtain ⟨g', cap', e4, hg3, hg4, cells', hcells'⟩ := Kd.R_form hR (by omega)
          subst e4
          have hcell0 : wr.cell? ⟨g, i, none⟩ = some (.slice (some ⟨g', 0, none⟩) y.length cap') := by
            have : i * (Kd.slice 2 (Kd.int .i64)).sz + 0 = i := by show i * 1 + 0 = i; omega
            rw [this, add_at, Nat.zero_add] at hcellv; exact hcellv
          have hyz : (i : Int) < (y.length : Int) := by omega
          obtain ⟨hx9_0, hf9_0⟩ := Kd.R_celln 0 hR (i : Int) (by omega) (by omega)
          have HP := Kd.R_putg hR (i : Int) 1
          rw [Int.toNat_natCast] at HP hx9_0 hf9_0
          have HBK := Aside0.mk (hback (x' := y.set i 1) HP.2 (fun k_ hk_ => hR.1 k_ (by rw [← hk_]; rfl)) ⟨_, rfl, HP.1⟩)
          have HG := Aside0.mk HP.2
          have HBASE := Aside0.mk hg3
          have HY := Aside0.mk hy
          clear hback hcell hcellv hoki hcs hcells hcells' hR HP hy hg1 hg2 hg4 hbig hrow
          go_wp2_with ((with_reducible refine gate_store (t := 2) (p := 24) rfl ?_); refine store_event (t := 2) (p := 24) (v := ?vo) (w1 := (wr.setCell ⟨g', i, none⟩ (.int .i64 1))) ?hg ?ho ?hn ?hr ?_; (case ho => rfl); (case hg => rfl); (case hn => rfl); (case hr => first | (go_simp; done) | (go_simp; rfl)); intro w14 hw)
          go_roundg (t273.length - (i + 1))
          case measure => omega
          case rel =>
            refine ⟨i + 1, by omega, by omega, by go_num, ⟨?_⟩, ⟨?_⟩⟩
            · rw [impl_product.diag, HY.out]
              exact HBK.out
            · exact below_set HB.out HBASE.out
        · have hltz : ¬ (i : Int) < (t273.length : Int) := by omega
          obtain rfl : i = t273.length := by omega
          clear hltz hlt hg hi
          generalize impl_product.diag t273.length t273 = u at H' HS hln
          go_wp2
          clear hln hmax
          go_loopg [6, 28] k (fun kq v6 v28 w' => ∃ (x6_1 : List (List Int)) (x15_1 : Int), v28 = .int .i64 x15_1 ∧ Aside0 (impl_product.l0 kq l0 a1 x6_1 (a1.size : Int) x15_1 = some (r1, r2)) ∧ Aside0 (kq ≤ k) ∧ Aside0 (Kd.S (Kd.slice 2 (Kd.int .i64)) 44 w' w.heap.size (fun k_ => (w.heap.size ≤ k_)) v6 x6_1) ∧ Aside0 (Below w.heap.size w w'))
          case atStart => exact ⟨u, 0, rfl, H', ⟨Nat.le_refl _⟩, HS, HB⟩
          case round =>
            clear H' HS HB
            obtain ⟨x6_1, x15_1, rfl, HA, HK1, HS, HB⟩ := hrel
            cases gk with
            | zero => exact absurd HA.out (by simp [impl_product.l0])
            | succ k1 =>
              have H := HA.out
              clear HA
              simp only [impl_product.l0] at H
              obtain ⟨Ax, cx, eqx⟩ := Kd.S_slice HS.out
              subst eqx
              by_cases c6 : x15_1 < (a1.size : Int)
              · rw [if_pos c6] at H
                by_cases c7 : 0 ≤ x15_1
                · rw [if_pos c7, if_pos c6] at H
                  obtain ⟨ji10, hji10⟩ : ∃ j_ : Int, (((bt a1 x15_1) - 48) % 256) = j_ := ⟨_, rfl⟩
                  rw [hji10] at H
                  by_cases c11 : 0 ≤ ji10
                  · rw [if_pos c11] at H
                    by_cases c12 : ji10 < (l0.length : Int)
                    · rw [if_pos c12] at H
                      obtain ⟨t277, A13, H⟩ := Option.bind_eq_some_iff.mp H
                      have A13 := Aside0.mk A13
                      have c6b0 : decide (x15_1 < (a1.size : Int)) = true := decide_eq_true c6
                      have c11b0 : decide (0 ≤ ji10) = true := decide_eq_true c11
                      have c12b0 : decide (ji10 < (l0.length : Int)) = true := decide_eq_true c12
                      have p9 : (0 ≤ x15_1) = True := eq_true c7
                      have q9 : (x15_1 < (a1.size : Int)) = True := eq_true c6
                      have hx9 := bt_at a1 x15_1
                      obtain ⟨ad276, A276_0, c276_0, e276, hx276_0, hl276_0, hi276_0⟩ := at_L2 HR0.out ji10 c11 c12
                      obtain rfl : ad272 = ad276 := (by injection e276)
                      replace hx276_0 := (HB.out.cell (World.block_lt_of_cell? w _ hx276_0)).trans hx276_0
                      have HR276_0 := Aside0.mk hi276_0
                      have HC276_0 := Aside0.mk hl276_0
                      have p276 : (0 ≤ ji10) = True := eq_true c11
                      have q276 : (ji10 < (l0.length : Int)) = True := eq_true c12
                      clear hi276_0 hl276_0 c6 c7 c11 c12 e276
                      by_cases hQ : impl_product.over t277 = true
                      · rw [if_pos hQ] at H
                        simp only [Option.some.injEq, Prod.mk.injEq] at H
                        obtain ⟨rfl, rfl⟩ := H
                        have HQ := Aside0.mk (show (t277.any fun x => !(!(x.any fun n => !(Hand.upToB n 1000000000)))) = true from hQ)
                        clear hQ
                        go_wp2_with (first | (go_at_call 104; with_reducible refine (impl_timesMatrix.callsS k1 _ _ x6_1 _ _ (rd_L2 l0 ji10) t277 _ (Kd.S_reads' HS.out).2.2 (Kd.S_reads' HS.out).2.1 (Kd.C_below HR276_0.out HB.out) HC276_0.out A13.out).mono ?_; rintro e w17 ⟨v278, rfl, ho0, hb⟩; have HS2 := Aside0.mk (Kd.S_lower (Kd.S_mono (ok' := fun k_ => (w.heap.size ≤ k_)) ho0 (fun k_ hk_ => Nat.le_trans HB.out.size hk_)) HB.out.size); have HB2 := Aside0.mk (below_step HB.out hb); clear ho0 hb; obtain ⟨Ay, cy, eqy⟩ := Kd.S_slice HS2.out; subst eqy) | (go_at_call 97; refine (Hand.containsFunc_rows 107 #[] eg (fun x => !(!(x.any fun n => !(Hand.upToB n 1000000000)))) Ay cy t277 _ (fun A c x W hb hC hx => impl_product_ask A c x W hC hx) (Kd.S_reads' HS2.out).2.2).mono ?_; rw [HQ.out]; rintro e w18 ⟨rfl, hb2⟩))
                        go_ret2
                        exact ⟨_, rfl, Kd.S_nil _ _ _ _ _, below_step HB2.out hb2⟩
                      · rw [if_neg hQ] at H
                        have HQ := Aside0.mk (show (t277.any fun x => !(!(x.any fun n => !(Hand.upToB n 1000000000)))) = false from Bool.eq_false_iff.mpr hQ)
                        have H' := Aside0.mk H
                        clear hQ H
                        go_wp2_with (first | (go_at_call 104; with_reducible refine (impl_timesMatrix.callsS k1 _ _ x6_1 _ _ (rd_L2 l0 ji10) t277 _ (Kd.S_reads' HS.out).2.2 (Kd.S_reads' HS.out).2.1 (Kd.C_below HR276_0.out HB.out) HC276_0.out A13.out).mono ?_; rintro e w17 ⟨v278, rfl, ho0, hb⟩; have HS2 := Aside0.mk (Kd.S_lower (Kd.S_mono (ok' := fun k_ => (w.heap.size ≤ k_)) ho0 (fun k_ hk_ => Nat.le_trans HB.out.size hk_)) HB.out.size); have HB2 := Aside0.mk (below_step HB.out hb); clear ho0 hb; obtain ⟨Ay, cy, eqy⟩ := Kd.S_slice HS2.out; subst eqy) | (go_at_call 97; refine (Hand.containsFunc_rows 107 #[] eg (fun x => !(!(x.any fun n => !(Hand.upToB n 1000000000)))) Ay cy t277 _ (fun A c x W hb hC hx => impl_product_ask A c x W hC hx) (Kd.S_reads' HS2.out).2.2).mono ?_; rw [HQ.out]; rintro e w18 ⟨rfl, hb2⟩))
                        go_roundg k1
                        case measure => have := HK1.out; omega
                        case rel => exact ⟨t277, wrap64 (x15_1 + 1), rfl, H', ⟨by have := HK1.out; omega⟩, ⟨Kd.S_below HS2.out hb2⟩, ⟨below_step HB2.out hb2⟩⟩
                    · rw [if_neg c12] at H
                      exact absurd H (by simp)
                  · rw [if_neg c11] at H
                    exact absurd H (by simp)
                · rw [if_neg c7] at H
                  exact absurd H (by simp)
              · rw [if_neg c6] at H
                have c6b0 : decide (x15_1 < (a1.size : Int)) = false := decide_eq_false c6
                clear c6
                simp only [Option.some.injEq, Prod.mk.injEq] at H
                obtain ⟨rfl, rfl⟩ := H
                go_wp2
                go_ret2
                exact ⟨_, rfl, HS.out, HB.out⟩
    · rw [if_neg c4] at h
      exact absurd h (by simp)
  · rw [if_neg c3] at h
    exact absurd h (by simp)
theorem impl_product.calls (k : Nat) (A0 : Option Addr) (c0 : Nat) (l0 : List (List (List Int))) (a1 : ByteArray) (r1 : List (List Int)) (r2 : Bool) (w : World) (hr0 : Kd.C (Kd.slice 44 (Kd.slice 2 (Kd.int .i64))) w A0 l0.length l0) (hc0 : l0.length ≤ c0) (h : impl_product.f k l0 a1 = some (r1, r2)) :
    Calls Try.prog 70 #[.slice A0 l0.length c0, .string a1] w fun e w' => ∃ v0_ : Value, e = .returned (.tuple #[v0_, .bool r2]) ∧ Kd.N (Kd.slice 2 (Kd.int .i64)) 44 w' w.heap.size (fun k_ => (w.heap.size ≤ k_)) v0_ r1 ∧ Below w.heap.size w w' := by
  refine (impl_product.callsS k A0 c0 l0 a1 r1 r2 w hr0 hc0 h).mono ?_
  rintro e w' ⟨v0_, he, hS, hB⟩
  exact ⟨v0_, he, Kd.S_N hS, hB⟩


/-! ### impl_VanishAt: function 34 -/
def impl_VanishAt.l0 : Nat → List (List (List Int)) → Bool → List ByteArray → Int → Int → Option (Bool × Int)
  | 0, _, _, _, _, _ => none
  | k + 1, x1, x8, x23, x24, x25 => if x25 < x24 then (if 0 ≤ x25 then (if x25 < (x23.length : Int) then ((impl_product.f k x1 (rdOf ByteArray.empty x23 x25)).bind fun bt286 => (if bt286.2 = true then (if x8 = true then ((impl_isNothing.f bt286.1).bind fun t290 => (impl_VanishAt.l0 k x1 t290 x23 x24 (wrap64 (x25 + 1)))) else (impl_VanishAt.l0 k x1 false x23 x24 (wrap64 (x25 + 1)))) else (some (false, 3)))) else (none)) else (none)) else (some (x8, 0))
def impl_VanishAt.f (k : Nat) (a0 : Int) (l1 : List (List (List Int))) (a2 : Int) : Option (Bool × Int) := (impl_AreTables.f a0 l1).bind fun t280 => (if t280 = true then ((impl_within.f a2 0 4).bind fun t281 => (if t281 = true then ((impl_words.f k a0 (wrap64 (a2 + 1))).bind fun t282 => (impl_VanishAt.l0 k l1 true t282 (t282.length : Int) 0)) else (some (false, 2)))) else (some (false, 1)))
theorem impl_VanishAt.mono_l : ∀ k, (∀ y0 y1 y2 y3 y4, LeO (impl_VanishAt.l0 k y0 y1 y2 y3 y4) (impl_VanishAt.l0 (k + 1) y0 y1 y2 y3 y4))
  | 0 => fun _ _ _ _ _ r h => by simp [impl_VanishAt.l0] at h
  | k + 1 => by
    have ih0 := impl_VanishAt.mono_l k
    · intro y0 y1 y2 y3 y4
      unfold impl_VanishAt.l0
      repeat' first
      | (with_reducible exact ih0 _ _ _ _ _)
      | (with_reducible exact impl_product.mono _ _ _)
      | (with_reducible exact impl_words.mono _ _ _)
      | (with_reducible exact LeO.refl _)
      | (with_reducible exact LeO.none _)
      | (with_reducible refine LeO.ite ?_ ?_)
      | (with_reducible refine LeO.bind ?_ (fun _ => ?_))
      | exact ih0 _ _ _ _ _
      | exact impl_product.mono _ _ _
      | exact impl_words.mono _ _ _
      | exact LeO.none _
      | refine LeO.ite ?_ ?_
      | refine LeO.bind ?_ (fun _ => ?_)
theorem impl_VanishAt.mono : ∀ a0 a1 a2 k, LeO (impl_VanishAt.f k a0 a1 a2) (impl_VanishAt.f (k + 1) a0 a1 a2) := by
  intro a0 a1 a2 k
  have ih0 := impl_VanishAt.mono_l k
  unfold impl_VanishAt.f
  repeat' first
      | (with_reducible exact ih0 _ _ _ _ _)
      | (with_reducible exact impl_product.mono _ _ _)
      | (with_reducible exact impl_words.mono _ _ _)
      | (with_reducible exact LeO.refl _)
      | (with_reducible exact LeO.none _)
      | (with_reducible refine LeO.ite ?_ ?_)
      | (with_reducible refine LeO.bind ?_ (fun _ => ?_))
      | exact ih0 _ _ _ _ _
      | exact impl_product.mono _ _ _
      | exact impl_words.mono _ _ _
      | exact LeO.none _
      | refine LeO.ite ?_ ?_
      | refine LeO.bind ?_ (fun _ => ?_)
set_option maxHeartbeats 8000000 in
set_option maxRecDepth 100000 in
theorem impl_VanishAt.calls (k : Nat) (a0 : Int) (A1 : Option Addr) (c1 : Nat) (l1 : List (List (List Int))) (a2 : Int) (r1 : Bool) (r2 : Int) (w : World) (hr1 : Kd.C (Kd.slice 44 (Kd.slice 2 (Kd.int .i64))) w A1 l1.length l1) (hc1 : l1.length ≤ c1) (h : impl_VanishAt.f k a0 l1 a2 = some (r1, r2)) :
    Calls Try.prog 34 #[.int .i64 a0, .slice A1 l1.length c1, .int .i64 a2] w fun e w' => e = .returned (.tuple #[.bool r1, .int .i64 r2]) ∧ Below w.heap.size w w' := by
  have HR1 := Aside0.mk hr1
  have HC1 := Aside0.mk hc1
  clear hr1 hc1
  have HB := Aside0.mk (Below.refl w.heap.size w)
  have H : ((impl_AreTables.f a0 l1).bind fun t280 => (if t280 = true then ((impl_within.f a2 0 4).bind fun t281 => (if t281 = true then ((impl_words.f k a0 (wrap64 (a2 + 1))).bind fun t282 => (impl_VanishAt.l0 k l1 true t282 (t282.length : Int) 0)) else (some (false, 2)))) else (some (false, 1)))) = some (r1, r2) := h
  clear h
  replace H := Option.bind_eq_some_iff.mp H
  obtain ⟨t280, A40, H⟩ := H
  replace H : (if t280 = true then ((impl_within.f a2 0 4).bind fun t281 => (if t281 = true then ((impl_words.f k a0 (wrap64 (a2 + 1))).bind fun t282 => (impl_VanishAt.l0 k l1 true t282 (t282.length : Int) 0)) else (some (false, 2)))) else (some (false, 1))) = some (r1, r2) := H
  have A4 := Aside0.mk A40
  clear A40
  by_cases c5 : t280 = true
  · subst c5
    have H1 : ((impl_within.f a2 0 4).bind fun t281 => (if t281 = true then ((impl_words.f k a0 (wrap64 (a2 + 1))).bind fun t282 => (impl_VanishAt.l0 k l1 true t282 (t282.length : Int) 0)) else (some (false, 2)))) = some (r1, r2) := by rw [if_pos rfl] at H; exact H
    clear H
    have H := H1
    clear H1
    replace H := Option.bind_eq_some_iff.mp H
    obtain ⟨t281, A60, H⟩ := H
    replace H : (if t281 = true then ((impl_words.f k a0 (wrap64 (a2 + 1))).bind fun t282 => (impl_VanishAt.l0 k l1 true t282 (t282.length : Int) 0)) else (some (false, 2))) = some (r1, r2) := H
    have A6 := Aside0.mk A60
    clear A60
    by_cases c7 : t281 = true
    · subst c7
      have H1 : ((impl_words.f k a0 (wrap64 (a2 + 1))).bind fun t282 => (impl_VanishAt.l0 k l1 true t282 (t282.length : Int) 0)) = some (r1, r2) := by rw [if_pos rfl] at H; exact H
      clear H
      have H := H1
      clear H1
      replace H := Option.bind_eq_some_iff.mp H
      obtain ⟨t282, A80, H⟩ := H
      replace H : (impl_VanishAt.l0 k l1 true t282 (t282.length : Int) 0) = some (r1, r2) := H
      have A8 := Aside0.mk A80
      clear A80
      have H' := Aside0.mk H
      clear H
      go_enter Try.func34, Try.ntmps34
      go_wp2_with (first | ((with_reducible refine gate_callee (f := 23) rfl ?_); refine goesL_ (some 15) rfl rfl Try.func23 (by kernel_rfl) rfl #[.int .i64 a0, .slice A1 l1.length c1] rfl (by (try simp only [List.map_toArray, List.map_cons, List.map_nil]); first | done | rfl | (simp only [List.length_drop, List.length_take]; rfl)) ?_; (with_reducible refine (impl_AreTables.calls a0 _ _ l1 true _ ?side1 ?side2 A4.out).mono ?_); (case side1 => repeat (first | exact HR1.out | (with_reducible refine Kd.C_alloc ?_ _) | (with_reducible refine Kd.C_drewN ?_ _) | (with_reducible refine Kd.C_drew ?_))); (case side2 => exact HC1.out); rintro e w9 ⟨rfl, hb⟩; refine ⟨_, rfl, ?_⟩; have n0_ := Aside0.mk (below_step (by repeat (first | (with_reducible first | exact HB.out | apply below_alloc | apply pw_below_drewN | apply below_drew1) | exact HB.out)) hb); clear HB; have HB := n0_; clear n0_; (try clear hb); (try clear hb2); (try clear hk); (try clear hi)) | ((with_reducible refine gate_callee (f := 53) rfl ?_); refine goesL_ (some 18) rfl rfl Try.func53 (by kernel_rfl) rfl #[.int .i64 a2, .int .i64 0, .int .i64 4] rfl (by (try simp only [List.map_toArray, List.map_cons, List.map_nil]); first | done | rfl | (simp only [List.length_drop, List.length_take]; rfl)) ?_; (with_reducible refine (impl_within.calls a2 0 4 true _ A6.out).mono ?_); rintro e w' ⟨rfl, ⟨nd, rfl⟩⟩; refine ⟨_, rfl, ?_⟩) | ((with_reducible refine gate_callee (f := 69) rfl ?_); refine goesL_ (some 23) rfl rfl Try.func69 (by kernel_rfl) rfl #[.int .i64 a0, .int .i64 (wrap64 (a2 + 1))] rfl (by (try simp only [List.map_toArray, List.map_cons, List.map_nil]); first | done | rfl | (simp only [List.length_drop, List.length_take]; rfl)) ?_; (with_reducible refine (impl_words.calls k a0 (wrap64 (a2 + 1)) t282 _ A8.out).mono ?_); rintro e w10 ⟨v283, rfl, ho0, hb⟩; refine ⟨_, rfl, ?_⟩; have n0_ := Aside0.mk (Kd.R_lower ho0 (below_size (by repeat (first | (with_reducible first | exact HB.out | apply below_alloc | apply pw_below_drewN | apply below_drew1) | exact HB.out)))); have n1_ := Aside0.mk (below_step (by repeat (first | (with_reducible first | exact HB.out | apply below_alloc | apply pw_below_drewN | apply below_drew1) | exact HB.out)) hb); clear HB; have HO284 := n0_; have HB := n1_; clear n0_ n1_; (try clear hb); (try clear hb2); (try clear hk); (try clear hi); (try clear ho0); obtain ⟨Ao11, co11, eo11⟩ := Kd.R_slice HO284.out; subst eo11))
      go_loopg [8, 25] k (fun kq v8 v25 w' => ∃ (x8_1 : Bool) (x25_1 : Int), v8 = .bool x8_1 ∧ v25 = .int .i64 x25_1 ∧ Aside0 (impl_VanishAt.l0 kq l1 x8_1 t282 (t282.length : Int) x25_1 = some (r1, r2)) ∧ Aside0 (kq ≤ k) ∧ Aside0 (Kd.R Kd.string 9 w' w.heap.size (fun _ => True) (.slice Ao11 t282.length co11) t282) ∧ Aside0 (Below w.heap.size w w'))
      case atStart => exact ⟨(true), (0), (by first | rfl | (simp; done) | (simp [*]; done)), (by first | rfl | (simp; done) | (simp [*]; done)), H', ⟨Nat.le_refl _⟩, ⟨by (with_reducible repeat (first | apply Kd.R_alloc | apply Kd.R_drewN | apply Kd.R_drew)); exact HO284.out⟩, ⟨by repeat (first | (with_reducible first | exact HB.out | apply below_alloc | apply pw_below_drewN | apply below_drew1) | exact HB.out)⟩⟩
      case round =>
        clear H'
        try clear c1
        try clear c2
        try clear p2
        try clear c3
        try clear c5
        try clear c6
        try clear p6
        try clear c7
        obtain ⟨x8_1, x25_1, rfl, rfl, HA, HK1, HO_23, HB⟩ := hrel
        cases gk with
        | zero => exact absurd HA.out (by simp [impl_VanishAt.l0])
        | succ k1 =>
          have H := HA.out
          clear HA
          simp only [impl_VanishAt.l0] at H
          by_cases c12 : x25_1 < (t282.length : Int)
          · rw [if_pos c12] at H
            have c12b0 : decide (x25_1 < (t282.length : Int)) = true := decide_eq_true c12
            clear c12
            by_cases c13 : 0 ≤ x25_1
            · rw [if_pos c13] at H
              have c13b0 : decide (0 ≤ x25_1) = true := decide_eq_true c13
              clear c13
              by_cases c14 : x25_1 < (t282.length : Int)
              · rw [if_pos c14] at H
                have c14b0 : decide (x25_1 < (t282.length : Int)) = true := decide_eq_true c14
                clear c14
                replace H := Option.bind_eq_some_iff.mp H
                obtain ⟨⟨t286, t289⟩, A150, H⟩ := H
                replace H : (if t289 = true then (if x8_1 = true then ((impl_isNothing.f t286).bind fun t290 => (impl_VanishAt.l0 k1 l1 t290 t282 (t282.length : Int) (wrap64 (x25_1 + 1)))) else (impl_VanishAt.l0 k1 l1 false t282 (t282.length : Int) (wrap64 (x25_1 + 1)))) else (some (false, 3))) = some (r1, r2) := H
                have A15 := Aside0.mk A150
                clear A150
                by_cases c16 : t289 = true
                · subst c16
                  have H1 : (if x8_1 = true then ((impl_isNothing.f t286).bind fun t290 => (impl_VanishAt.l0 k1 l1 t290 t282 (t282.length : Int) (wrap64 (x25_1 + 1)))) else (impl_VanishAt.l0 k1 l1 false t282 (t282.length : Int) (wrap64 (x25_1 + 1)))) = some (r1, r2) := by rw [if_pos rfl] at H; exact H
                  clear H
                  have H := H1
                  clear H1
                  by_cases c17 : x8_1 = true
                  · subst c17
                    have H1 : ((impl_isNothing.f t286).bind fun t290 => (impl_VanishAt.l0 k1 l1 t290 t282 (t282.length : Int) (wrap64 (x25_1 + 1)))) = some (r1, r2) := by rw [if_pos rfl] at H; exact H
                    clear H
                    have H := H1
                    clear H1
                    replace H := Option.bind_eq_some_iff.mp H
                    obtain ⟨t290, A180, H⟩ := H
                    replace H : (impl_VanishAt.l0 k1 l1 t290 t282 (t282.length : Int) (wrap64 (x25_1 + 1))) = some (r1, r2) := H
                    have A18 := Aside0.mk A180
                    clear A180
                    have H' := Aside0.mk H
                    clear H
                    have p285 : 0 ≤ (x25_1 : Int) := of_decide_eq_true (by first | (with_reducible assumption) | assumption)
                    have q285 : x25_1 < (t282.length : Int) := of_decide_eq_true (by first | (with_reducible assumption) | assumption)
                    obtain ⟨ad285, e285, hx285_0⟩ := Kd.at_string (Kd.R_reads' HO_23.out).2.2 x25_1 p285 q285
                    cases e285
                    replace p285 := eq_true p285
                    replace q285 := eq_true q285
                    go_wp2_with (first | ((with_reducible refine gate_callee (f := 70) rfl ?_); refine goesL_ (some 32) rfl rfl Try.func70 (by kernel_rfl) rfl #[.slice A1 l1.length c1, .string (rdOf ByteArray.empty t282 x25_1)] rfl (by (try simp only [List.map_toArray, List.map_cons, List.map_nil]); first | done | rfl | (simp only [List.length_drop, List.length_take]; rfl)) ?_; (with_reducible refine (impl_product.calls k1 _ _ l1 (rdOf ByteArray.empty t282 x25_1) t286 true _ ?side1 ?side2 A15.out).mono ?_); (case side1 => repeat (first | exact (Kd.C_below HR1.out HB.out) | (with_reducible refine Kd.C_alloc ?_ _) | (with_reducible refine Kd.C_drewN ?_ _) | (with_reducible refine Kd.C_drew ?_))); (case side2 => exact HC1.out); rintro e w19 ⟨v287, rfl, ho0, hb⟩; refine ⟨_, rfl, ?_⟩; have n0_ := Aside0.mk (Kd.R_below (by (with_reducible repeat (first | apply Kd.R_alloc | apply Kd.R_drewN | apply Kd.R_drew)); exact HO_23.out) hb); have n1_ := Aside0.mk (Kd.N_lower (Kd.N_mono (ok' := fun k_ => some k_ ≠ (.slice (some ad285) t282.length co11 : Value).ownBlock) ho0 (fun k_ hk_ => (Kd.fresh' (Kd.R_lt (by (with_reducible repeat (first | apply Kd.R_alloc | apply Kd.R_drewN | apply Kd.R_drew)); exact HO_23.out)) k_ hk_))) (below_size (by repeat (first | (with_reducible first | exact HB.out | apply below_alloc | apply pw_below_drewN | apply below_drew1) | exact HB.out)))); have n2_ := Aside0.mk (below_step (by repeat (first | (with_reducible first | exact HB.out | apply below_alloc | apply pw_below_drewN | apply below_drew1) | exact HB.out)) hb); clear HO_23; clear HB; have HO_23 := n0_; have HO288 := n1_; have HB := n2_; clear n0_ n1_ n2_; (try clear hb); (try clear hb2); (try clear hk); (try clear hi); (try clear ho0); obtain ⟨Ao20, co20, eo20⟩ := Kd.N_slice HO288.out; subst eo20) | (go_at_call 63; (with_reducible refine (impl_isNothing.calls _ _ t286 t290 _ ?side1 ?side2 A18.out).mono ?_); (case side1 => repeat (first | exact (Kd.N_reads' HO288.out).2.2 | (with_reducible refine Kd.C_alloc ?_ _) | (with_reducible refine Kd.C_drewN ?_ _) | (with_reducible refine Kd.C_drew ?_))); (case side2 => exact (Kd.N_reads' HO288.out).2.1); rintro e w21 ⟨rfl, hb⟩; have n0_ := Aside0.mk (Kd.R_below (by (with_reducible repeat (first | apply Kd.R_alloc | apply Kd.R_drewN | apply Kd.R_drew)); exact HO_23.out) hb); have n1_ := Aside0.mk (Kd.N_below (by (with_reducible repeat (first | apply Kd.N_alloc | apply Kd.N_drewN | apply Kd.N_drew)); exact HO288.out) hb); have n2_ := Aside0.mk (below_step (by repeat (first | (with_reducible first | exact HB.out | apply below_alloc | apply pw_below_drewN | apply below_drew1) | exact HB.out)) hb); clear HO_23; clear HO288; clear HB; have HO_23 := n0_; have HO288 := n1_; have HB := n2_; clear n0_ n1_ n2_; (try clear hb); (try clear hb2); (try clear hk); (try clear hi)))
                    go_roundg k1
                    case measure => have := HK1.out; omega
                    case rel => exact ⟨(t290), (wrap64 (x25_1 + 1)), (by first | rfl | (simp; done) | (simp [*]; done)), (by first | rfl | (simp; done) | (simp [*]; done)), H', ⟨by have := HK1.out; omega⟩, ⟨by (with_reducible repeat (first | apply Kd.R_alloc | apply Kd.R_drewN | apply Kd.R_drew)); exact HO_23.out⟩, ⟨by repeat (first | (with_reducible first | exact HB.out | apply below_alloc | apply pw_below_drewN | apply below_drew1) | exact HB.out)⟩⟩
                  · replace c17 := Bool.eq_false_iff.mpr c17
                    subst c17
                    have H1 : (impl_VanishAt.l0 k1 l1 false t282 (t282.length : Int) (wrap64 (x25_1 + 1))) = some (r1, r2) := by rw [if_neg (show ¬ (false = true) by decide)] at H; exact H
                    clear H
                    have H := H1
                    clear H1
                    have H' := Aside0.mk H
                    clear H
                    have p285 : 0 ≤ (x25_1 : Int) := of_decide_eq_true (by first | (with_reducible assumption) | assumption)
                    have q285 : x25_1 < (t282.length : Int) := of_decide_eq_true (by first | (with_reducible assumption) | assumption)
                    obtain ⟨ad285, e285, hx285_0⟩ := Kd.at_string (Kd.R_reads' HO_23.out).2.2 x25_1 p285 q285
                    cases e285
                    replace p285 := eq_true p285
                    replace q285 := eq_true q285
                    go_wp2_with (first | ((with_reducible refine gate_callee (f := 70) rfl ?_); refine goesL_ (some 32) rfl rfl Try.func70 (by kernel_rfl) rfl #[.slice A1 l1.length c1, .string (rdOf ByteArray.empty t282 x25_1)] rfl (by (try simp only [List.map_toArray, List.map_cons, List.map_nil]); first | done | rfl | (simp only [List.length_drop, List.length_take]; rfl)) ?_; (with_reducible refine (impl_product.calls k1 _ _ l1 (rdOf ByteArray.empty t282 x25_1) t286 true _ ?side1 ?side2 A15.out).mono ?_); (case side1 => repeat (first | exact (Kd.C_below HR1.out HB.out) | (with_reducible refine Kd.C_alloc ?_ _) | (with_reducible refine Kd.C_drewN ?_ _) | (with_reducible refine Kd.C_drew ?_))); (case side2 => exact HC1.out); rintro e w22 ⟨v287, rfl, ho0, hb⟩; refine ⟨_, rfl, ?_⟩; have n0_ := Aside0.mk (Kd.R_below (by (with_reducible repeat (first | apply Kd.R_alloc | apply Kd.R_drewN | apply Kd.R_drew)); exact HO_23.out) hb); have n1_ := Aside0.mk (Kd.N_lower (Kd.N_mono (ok' := fun k_ => some k_ ≠ (.slice (some ad285) t282.length co11 : Value).ownBlock) ho0 (fun k_ hk_ => (Kd.fresh' (Kd.R_lt (by (with_reducible repeat (first | apply Kd.R_alloc | apply Kd.R_drewN | apply Kd.R_drew)); exact HO_23.out)) k_ hk_))) (below_size (by repeat (first | (with_reducible first | exact HB.out | apply below_alloc | apply pw_below_drewN | apply below_drew1) | exact HB.out)))); have n2_ := Aside0.mk (below_step (by repeat (first | (with_reducible first | exact HB.out | apply below_alloc | apply pw_below_drewN | apply below_drew1) | exact HB.out)) hb); clear HO_23; clear HB; have HO_23 := n0_; have HO288 := n1_; have HB := n2_; clear n0_ n1_ n2_; (try clear hb); (try clear hb2); (try clear hk); (try clear hi); (try clear ho0)))
                    go_roundg k1
                    case measure => have := HK1.out; omega
                    case rel => exact ⟨(false), (wrap64 (x25_1 + 1)), (by first | rfl | (simp; done) | (simp [*]; done)), (by first | rfl | (simp; done) | (simp [*]; done)), H', ⟨by have := HK1.out; omega⟩, ⟨by (with_reducible repeat (first | apply Kd.R_alloc | apply Kd.R_drewN | apply Kd.R_drew)); exact HO_23.out⟩, ⟨by repeat (first | (with_reducible first | exact HB.out | apply below_alloc | apply pw_below_drewN | apply below_drew1) | exact HB.out)⟩⟩
                · replace c16 := Bool.eq_false_iff.mpr c16
                  subst c16
                  have H1 : (some (false, 3)) = some (r1, r2) := by rw [if_neg (show ¬ (false = true) by decide)] at H; exact H
                  clear H
                  have H := H1
                  clear H1
                  simp only [Option.some.injEq, Prod.mk.injEq] at H
                  obtain ⟨rfl, rfl⟩ := H
                  have p285 : 0 ≤ (x25_1 : Int) := of_decide_eq_true (by first | (with_reducible assumption) | assumption)
                  have q285 : x25_1 < (t282.length : Int) := of_decide_eq_true (by first | (with_reducible assumption) | assumption)
                  obtain ⟨ad285, e285, hx285_0⟩ := Kd.at_string (Kd.R_reads' HO_23.out).2.2 x25_1 p285 q285
                  cases e285
                  replace p285 := eq_true p285
                  replace q285 := eq_true q285
                  go_wp2_with (first | ((with_reducible refine gate_callee (f := 70) rfl ?_); refine goesL_ (some 32) rfl rfl Try.func70 (by kernel_rfl) rfl #[.slice A1 l1.length c1, .string (rdOf ByteArray.empty t282 x25_1)] rfl (by (try simp only [List.map_toArray, List.map_cons, List.map_nil]); first | done | rfl | (simp only [List.length_drop, List.length_take]; rfl)) ?_; (with_reducible refine (impl_product.calls k1 _ _ l1 (rdOf ByteArray.empty t282 x25_1) t286 false _ ?side1 ?side2 A15.out).mono ?_); (case side1 => repeat (first | exact (Kd.C_below HR1.out HB.out) | (with_reducible refine Kd.C_alloc ?_ _) | (with_reducible refine Kd.C_drewN ?_ _) | (with_reducible refine Kd.C_drew ?_))); (case side2 => exact HC1.out); rintro e w23 ⟨v287, rfl, ho0, hb⟩; refine ⟨_, rfl, ?_⟩; have n0_ := Aside0.mk (Kd.R_below (by (with_reducible repeat (first | apply Kd.R_alloc | apply Kd.R_drewN | apply Kd.R_drew)); exact HO_23.out) hb); have n1_ := Aside0.mk (Kd.N_lower (Kd.N_mono (ok' := fun k_ => some k_ ≠ (.slice (some ad285) t282.length co11 : Value).ownBlock) ho0 (fun k_ hk_ => (Kd.fresh' (Kd.R_lt (by (with_reducible repeat (first | apply Kd.R_alloc | apply Kd.R_drewN | apply Kd.R_drew)); exact HO_23.out)) k_ hk_))) (below_size (by repeat (first | (with_reducible first | exact HB.out | apply below_alloc | apply pw_below_drewN | apply below_drew1) | exact HB.out)))); have n2_ := Aside0.mk (below_step (by repeat (first | (with_reducible first | exact HB.out | apply below_alloc | apply pw_below_drewN | apply below_drew1) | exact HB.out)) hb); clear HO_23; clear HB; have HO_23 := n0_; have HO288 := n1_; have HB := n2_; clear n0_ n1_ n2_; (try clear hb); (try clear hb2); (try clear hk); (try clear hi); (try clear ho0)))
                  go_ret2
                  exact ⟨by first | rfl | (simp [errW_none, errW_some] <;> rfl) | (simp [*, errW_none, errW_some] <;> rfl), by repeat (first | (with_reducible first | exact HB.out | apply below_alloc | apply pw_below_drewN | apply below_drew1) | exact HB.out)⟩
              · rw [if_neg c14] at H
                exact absurd H (by simp)
            · rw [if_neg c13] at H
              exact absurd H (by simp)
          · rw [if_neg c12] at H
            have c12b0 : decide (x25_1 < (t282.length : Int)) = false := decide_eq_false c12
            clear c12
            simp only [Option.some.injEq, Prod.mk.injEq] at H
            obtain ⟨rfl, rfl⟩ := H
            go_wp2
            go_ret2
            exact ⟨by first | rfl | (simp [errW_none, errW_some] <;> rfl) | (simp [*, errW_none, errW_some] <;> rfl), by repeat (first | (with_reducible first | exact HB.out | apply below_alloc | apply pw_below_drewN | apply below_drew1) | exact HB.out)⟩
    · replace c7 := Bool.eq_false_iff.mpr c7
      subst c7
      have H1 : (some (false, 2)) = some (r1, r2) := by rw [if_neg (show ¬ (false = true) by decide)] at H; exact H
      clear H
      have H := H1
      clear H1
      simp only [Option.some.injEq, Prod.mk.injEq] at H
      obtain ⟨rfl, rfl⟩ := H
      go_enter Try.func34, Try.ntmps34
      go_wp2_with (first | ((with_reducible refine gate_callee (f := 23) rfl ?_); refine goesL_ (some 15) rfl rfl Try.func23 (by kernel_rfl) rfl #[.int .i64 a0, .slice A1 l1.length c1] rfl (by (try simp only [List.map_toArray, List.map_cons, List.map_nil]); first | done | rfl | (simp only [List.length_drop, List.length_take]; rfl)) ?_; (with_reducible refine (impl_AreTables.calls a0 _ _ l1 true _ ?side1 ?side2 A4.out).mono ?_); (case side1 => repeat (first | exact HR1.out | (with_reducible refine Kd.C_alloc ?_ _) | (with_reducible refine Kd.C_drewN ?_ _) | (with_reducible refine Kd.C_drew ?_))); (case side2 => exact HC1.out); rintro e w24 ⟨rfl, hb⟩; refine ⟨_, rfl, ?_⟩; have n0_ := Aside0.mk (below_step (by repeat (first | (with_reducible first | exact HB.out | apply below_alloc | apply pw_below_drewN | apply below_drew1) | exact HB.out)) hb); clear HB; have HB := n0_; clear n0_; (try clear hb); (try clear hb2); (try clear hk); (try clear hi)) | ((with_reducible refine gate_callee (f := 53) rfl ?_); refine goesL_ (some 18) rfl rfl Try.func53 (by kernel_rfl) rfl #[.int .i64 a2, .int .i64 0, .int .i64 4] rfl (by (try simp only [List.map_toArray, List.map_cons, List.map_nil]); first | done | rfl | (simp only [List.length_drop, List.length_take]; rfl)) ?_; (with_reducible refine (impl_within.calls a2 0 4 false _ A6.out).mono ?_); rintro e w' ⟨rfl, ⟨nd, rfl⟩⟩; refine ⟨_, rfl, ?_⟩))
      go_ret2
      exact ⟨by first | rfl | (simp [errW_none, errW_some] <;> rfl) | (simp [*, errW_none, errW_some] <;> rfl), by repeat (first | (with_reducible first | exact HB.out | apply below_alloc | apply pw_below_drewN | apply below_drew1) | exact HB.out)⟩
  · replace c5 := Bool.eq_false_iff.mpr c5
    subst c5
    have H1 : (some (false, 1)) = some (r1, r2) := by rw [if_neg (show ¬ (false = true) by decide)] at H; exact H
    clear H
    have H := H1
    clear H1
    simp only [Option.some.injEq, Prod.mk.injEq] at H
    obtain ⟨rfl, rfl⟩ := H
    go_enter Try.func34, Try.ntmps34
    go_wp2_with (first | ((with_reducible refine gate_callee (f := 23) rfl ?_); refine goesL_ (some 15) rfl rfl Try.func23 (by kernel_rfl) rfl #[.int .i64 a0, .slice A1 l1.length c1] rfl (by (try simp only [List.map_toArray, List.map_cons, List.map_nil]); first | done | rfl | (simp only [List.length_drop, List.length_take]; rfl)) ?_; (with_reducible refine (impl_AreTables.calls a0 _ _ l1 false _ ?side1 ?side2 A4.out).mono ?_); (case side1 => repeat (first | exact HR1.out | (with_reducible refine Kd.C_alloc ?_ _) | (with_reducible refine Kd.C_drewN ?_ _) | (with_reducible refine Kd.C_drew ?_))); (case side2 => exact HC1.out); rintro e w25 ⟨rfl, hb⟩; refine ⟨_, rfl, ?_⟩; have n0_ := Aside0.mk (below_step (by repeat (first | (with_reducible first | exact HB.out | apply below_alloc | apply pw_below_drewN | apply below_drew1) | exact HB.out)) hb); clear HB; have HB := n0_; clear n0_; (try clear hb); (try clear hb2); (try clear hk); (try clear hi)))
    go_ret2
    exact ⟨by first | rfl | (simp [errW_none, errW_some] <;> rfl) | (simp [*, errW_none, errW_some] <;> rfl), by repeat (first | (with_reducible first | exact HB.out | apply below_alloc | apply pw_below_drewN | apply below_drew1) | exact HB.out)⟩

/-! ### laws_FnExactVanishAt: function 8 -/
def laws_FnExactVanishAt.j0 : Nat → List (List (List Int)) → List (List (List Int)) → Bool → Option (Bool)
  | 0, _, _, _ => none
  | k + 1, x1, x10, x42 => if x42 = true then (some false) else ((laws_toInt64SSS.f k x1).bind fun t302 => ((laws_eqInt64SSS.f k x10 t302).bind fun t305 => (if t305 = true then (some true) else (some false))))
def laws_FnExactVanishAt.f (k : Nat) (a0 : Int) (l1 : List (List (List Int))) (a2 : Int) : Option (Bool) := (laws_szInt64SSS.f k l1 1048576).bind fun t291 => (if t291 < 0 then (some true) else ((laws_toInt64SSS.f k l1).bind fun t292 => ((spec_VanishAt.f k a0 t292 a2).bind fun bt295 => ((laws_toInt64SSS.f k l1).bind fun t297 => ((impl_VanishAt.f k a0 t297 a2).bind fun bt300 => (if (bt300.1 != bt295.1) = true then (laws_FnExactVanishAt.j0 k l1 t297 true) else (laws_FnExactVanishAt.j0 k l1 t297 (bt300.2 != bt295.2))))))))
theorem laws_FnExactVanishAt.mono_l : ∀ k, (∀ y0 y1 y2, LeO (laws_FnExactVanishAt.j0 k y0 y1 y2) (laws_FnExactVanishAt.j0 (k + 1) y0 y1 y2))
  | 0 => fun _ _ _ r h => by simp [laws_FnExactVanishAt.j0] at h
  | k + 1 => by
    have ih0 := laws_FnExactVanishAt.mono_l k
    · intro y0 y1 y2
      unfold laws_FnExactVanishAt.j0
      repeat' first
      | (with_reducible exact ih0 _ _ _)
      | (with_reducible exact impl_VanishAt.mono _ _ _ _)
      | (with_reducible exact laws_eqInt64SSS.mono _ _ _)
      | (with_reducible exact laws_szInt64SSS.mono _ _ _)
      | (with_reducible exact laws_toInt64SSS.mono _ _)
      | (with_reducible exact spec_VanishAt.mono _ _ _ _)
      | (with_reducible exact LeO.refl _)
      | (with_reducible exact LeO.none _)
      | (with_reducible refine LeO.ite ?_ ?_)
      | (with_reducible refine LeO.bind ?_ (fun _ => ?_))
      | exact ih0 _ _ _
      | exact impl_VanishAt.mono _ _ _ _
      | exact laws_eqInt64SSS.mono _ _ _
      | exact laws_szInt64SSS.mono _ _ _
      | exact laws_toInt64SSS.mono _ _
      | exact spec_VanishAt.mono _ _ _ _
      | exact LeO.none _
      | refine LeO.ite ?_ ?_
      | refine LeO.bind ?_ (fun _ => ?_)
theorem laws_FnExactVanishAt.mono : ∀ a0 a1 a2 k, LeO (laws_FnExactVanishAt.f k a0 a1 a2) (laws_FnExactVanishAt.f (k + 1) a0 a1 a2) := by
  intro a0 a1 a2 k
  have ih0 := laws_FnExactVanishAt.mono_l k
  unfold laws_FnExactVanishAt.f
  repeat' first
      | (with_reducible exact ih0 _ _ _)
      | (with_reducible exact impl_VanishAt.mono _ _ _ _)
      | (with_reducible exact laws_eqInt64SSS.mono _ _ _)
      | (with_reducible exact laws_szInt64SSS.mono _ _ _)
      | (with_reducible exact laws_toInt64SSS.mono _ _)
      | (with_reducible exact spec_VanishAt.mono _ _ _ _)
      | (with_reducible exact LeO.refl _)
      | (with_reducible exact LeO.none _)
      | (with_reducible refine LeO.ite ?_ ?_)
      | (with_reducible refine LeO.bind ?_ (fun _ => ?_))
      | exact ih0 _ _ _
      | exact impl_VanishAt.mono _ _ _ _
      | exact laws_eqInt64SSS.mono _ _ _
      | exact laws_szInt64SSS.mono _ _ _
      | exact laws_toInt64SSS.mono _ _
      | exact spec_VanishAt.mono _ _ _ _
      | exact LeO.none _
      | refine LeO.ite ?_ ?_
      | refine LeO.bind ?_ (fun _ => ?_)
set_option maxHeartbeats 8000000 in
set_option maxRecDepth 100000 in
theorem laws_FnExactVanishAt.calls (k : Nat) (a0 : Int) (A1 : Option Addr) (c1 : Nat) (l1 : List (List (List Int))) (a2 : Int) (r : Bool) (w : World) (hr1 : Kd.C (Kd.slice 44 (Kd.slice 2 (Kd.int .i64))) w A1 l1.length l1) (hc1 : l1.length ≤ c1) (h : laws_FnExactVanishAt.f k a0 l1 a2 = some r) :
    Calls Try.prog 8 #[.int .i64 a0, .slice A1 l1.length c1, .int .i64 a2] w fun e w' => e = .returned (.bool r) ∧ Below w.heap.size w w' := by
  have HR1 := Aside0.mk hr1
  have HC1 := Aside0.mk hc1
  clear hr1 hc1
  have HB := Aside0.mk (Below.refl w.heap.size w)
  have H : ((laws_szInt64SSS.f k l1 1048576).bind fun t291 => (if t291 < 0 then (some true) else ((laws_toInt64SSS.f k l1).bind fun t292 => ((spec_VanishAt.f k a0 t292 a2).bind fun bt295 => ((laws_toInt64SSS.f k l1).bind fun t297 => ((impl_VanishAt.f k a0 t297 a2).bind fun bt300 => (if (bt300.1 != bt295.1) = true then (laws_FnExactVanishAt.j0 k l1 t297 true) else (laws_FnExactVanishAt.j0 k l1 t297 (bt300.2 != bt295.2))))))))) = some r := h
  clear h
  replace H := Option.bind_eq_some_iff.mp H
  obtain ⟨t291, A40, H⟩ := H
  replace H : (if t291 < 0 then (some true) else ((laws_toInt64SSS.f k l1).bind fun t292 => ((spec_VanishAt.f k a0 t292 a2).bind fun bt295 => ((laws_toInt64SSS.f k l1).bind fun t297 => ((impl_VanishAt.f k a0 t297 a2).bind fun bt300 => (if (bt300.1 != bt295.1) = true then (laws_FnExactVanishAt.j0 k l1 t297 true) else (laws_FnExactVanishAt.j0 k l1 t297 (bt300.2 != bt295.2)))))))) = some r := H
  have A4 := Aside0.mk A40
  clear A40
  by_cases c5 : t291 < 0
  · rw [if_pos c5] at H
    have c5b0 : decide (t291 < 0) = true := decide_eq_true c5
    clear c5
    obtain rfl := Option.some.inj H
    go_enter Try.func8, Try.ntmps8
    go_wp2_with (first | ((with_reducible refine gate_callee (f := 20) rfl ?_); refine goesL_ (some 15) rfl rfl Try.func20 (by kernel_rfl) rfl #[.slice A1 l1.length c1, .int .i64 1048576] rfl (by (try simp only [List.map_toArray, List.map_cons, List.map_nil]); first | done | rfl | (simp only [List.length_drop, List.length_take]; rfl)) ?_; (with_reducible refine (laws_szInt64SSS.calls k _ _ l1 1048576 t291 _ ?side1 ?side2 A4.out).mono ?_); (case side1 => repeat (first | exact HR1.out | (with_reducible refine Kd.C_alloc ?_ _) | (with_reducible refine Kd.C_drewN ?_ _) | (with_reducible refine Kd.C_drew ?_))); (case side2 => exact HC1.out); rintro e w' ⟨rfl, ⟨nd, rfl⟩⟩; refine ⟨_, rfl, ?_⟩))
    go_ret
    exact ⟨by first | rfl | (simp [errW_none, errW_some] <;> rfl) | (simp [*, errW_none, errW_some] <;> rfl), by repeat (first | (with_reducible first | exact HB.out | apply below_alloc | apply pw_below_drewN | apply below_drew1) | exact HB.out)⟩
  · rw [if_neg c5] at H
    have c5b0 : decide (t291 < 0) = false := decide_eq_false c5
    clear c5
    replace H := Option.bind_eq_some_iff.mp H
    obtain ⟨t292, A60, H⟩ := H
    replace H : ((spec_VanishAt.f k a0 t292 a2).bind fun bt295 => ((laws_toInt64SSS.f k l1).bind fun t297 => ((impl_VanishAt.f k a0 t297 a2).bind fun bt300 => (if (bt300.1 != bt295.1) = true then (laws_FnExactVanishAt.j0 k l1 t297 true) else (laws_FnExactVanishAt.j0 k l1 t297 (bt300.2 != bt295.2)))))) = some r := H
    have A6 := Aside0.mk A60
    clear A60
    replace H := Option.bind_eq_some_iff.mp H
    obtain ⟨⟨t295, t296⟩, A70, H⟩ := H
    replace H : ((laws_toInt64SSS.f k l1).bind fun t297 => ((impl_VanishAt.f k a0 t297 a2).bind fun bt300 => (if (bt300.1 != t295) = true then (laws_FnExactVanishAt.j0 k l1 t297 true) else (laws_FnExactVanishAt.j0 k l1 t297 (bt300.2 != t296))))) = some r := H
    have A7 := Aside0.mk A70
    clear A70
    replace H := Option.bind_eq_some_iff.mp H
    obtain ⟨t297, A80, H⟩ := H
    replace H : ((impl_VanishAt.f k a0 t297 a2).bind fun bt300 => (if (bt300.1 != t295) = true then (laws_FnExactVanishAt.j0 k l1 t297 true) else (laws_FnExactVanishAt.j0 k l1 t297 (bt300.2 != t296)))) = some r := H
    have A8 := Aside0.mk A80
    clear A80
    replace H := Option.bind_eq_some_iff.mp H
    obtain ⟨⟨t300, t301⟩, A90, H⟩ := H
    replace H : (if (t300 != t295) = true then (laws_FnExactVanishAt.j0 k l1 t297 true) else (laws_FnExactVanishAt.j0 k l1 t297 (t301 != t296))) = some r := H
    have A9 := Aside0.mk A90
    clear A90
    have HC10 := Aside0.mk H
    clear H
    go_enter Try.func8, Try.ntmps8
    go_upto_region 8 with (first | ((with_reducible refine gate_callee (f := 20) rfl ?_); refine goesL_ (some 15) rfl rfl Try.func20 (by kernel_rfl) rfl #[.slice A1 l1.length c1, .int .i64 1048576] rfl (by (try simp only [List.map_toArray, List.map_cons, List.map_nil]); first | done | rfl | (simp only [List.length_drop, List.length_take]; rfl)) ?_; (with_reducible refine (laws_szInt64SSS.calls k _ _ l1 1048576 t291 _ ?side1 ?side2 A4.out).mono ?_); (case side1 => repeat (first | exact HR1.out | (with_reducible refine Kd.C_alloc ?_ _) | (with_reducible refine Kd.C_drewN ?_ _) | (with_reducible refine Kd.C_drew ?_))); (case side2 => exact HC1.out); rintro e w' ⟨rfl, ⟨nd, rfl⟩⟩; refine ⟨_, rfl, ?_⟩) | ((with_reducible refine gate_callee (f := 22) rfl ?_); refine goesL_ (some 21) rfl rfl Try.func22 (by kernel_rfl) rfl #[.slice A1 l1.length c1] rfl (by (try simp only [List.map_toArray, List.map_cons, List.map_nil]); first | done | rfl | (simp only [List.length_drop, List.length_take]; rfl)) ?_; (with_reducible refine (laws_toInt64SSS.calls k _ _ l1 t292 _ ?side1 ?side2 A6.out).mono ?_); (case side1 => repeat (first | exact HR1.out | (with_reducible refine Kd.C_alloc ?_ _) | (with_reducible refine Kd.C_drewN ?_ _) | (with_reducible refine Kd.C_drew ?_))); (case side2 => exact HC1.out); rintro e w11 ⟨v293, rfl, ho0, hb⟩; refine ⟨_, rfl, ?_⟩; have n0_ := Aside0.mk (Kd.R_lower ho0 (below_size (by repeat (first | (with_reducible first | exact HB.out | apply below_alloc | apply pw_below_drewN | apply below_drew1) | exact HB.out)))); have n1_ := Aside0.mk (below_step (by repeat (first | (with_reducible first | exact HB.out | apply below_alloc | apply pw_below_drewN | apply below_drew1) | exact HB.out)) hb); clear HB; have HO294 := n0_; have HB := n1_; clear n0_ n1_; (try clear hb); (try clear hb2); (try clear hk); (try clear hi); (try clear ho0); obtain ⟨Ao12, co12, eo12⟩ := Kd.R_slice HO294.out; subst eo12) | ((with_reducible refine gate_callee (f := 33) rfl ?_); refine goesL_ (some 23) rfl rfl Try.func33 (by kernel_rfl) rfl #[.int .i64 a0, .slice Ao12 t292.length co12, .int .i64 a2] rfl (by (try simp only [List.map_toArray, List.map_cons, List.map_nil]); first | done | rfl | (simp only [List.length_drop, List.length_take]; rfl)) ?_; (with_reducible refine (spec_VanishAt.calls k a0 _ _ t292 a2 t295 t296 _ ?side1 ?side2 A7.out).mono ?_); (case side1 => repeat (first | exact (Kd.R_reads' HO294.out).2.2 | (with_reducible refine Kd.C_alloc ?_ _) | (with_reducible refine Kd.C_drewN ?_ _) | (with_reducible refine Kd.C_drew ?_))); (case side2 => exact (Kd.R_reads' HO294.out).2.1); rintro e w13 ⟨rfl, hb⟩; refine ⟨_, rfl, ?_⟩; have n0_ := Aside0.mk (Kd.R_below (by (with_reducible repeat (first | apply Kd.R_alloc | apply Kd.R_drewN | apply Kd.R_drew)); exact HO294.out) hb); have n1_ := Aside0.mk (below_step (by repeat (first | (with_reducible first | exact HB.out | apply below_alloc | apply pw_below_drewN | apply below_drew1) | exact HB.out)) hb); clear HO294; clear HB; have HO294 := n0_; have HB := n1_; clear n0_ n1_; (try clear hb); (try clear hb2); (try clear hk); (try clear hi)) | ((with_reducible refine gate_callee (f := 22) rfl ?_); refine goesL_ (some 27) rfl rfl Try.func22 (by kernel_rfl) rfl #[.slice A1 l1.length c1] rfl (by (try simp only [List.map_toArray, List.map_cons, List.map_nil]); first | done | rfl | (simp only [List.length_drop, List.length_take]; rfl)) ?_; (with_reducible refine (laws_toInt64SSS.calls k _ _ l1 t297 _ ?side1 ?side2 A8.out).mono ?_); (case side1 => repeat (first | exact (Kd.C_below HR1.out HB.out) | (with_reducible refine Kd.C_alloc ?_ _) | (with_reducible refine Kd.C_drewN ?_ _) | (with_reducible refine Kd.C_drew ?_))); (case side2 => exact HC1.out); rintro e w14 ⟨v298, rfl, ho0, hb⟩; refine ⟨_, rfl, ?_⟩; have n0_ := Aside0.mk (Kd.R_elder' (by (with_reducible repeat (first | apply Kd.R_alloc | apply Kd.R_drewN | apply Kd.R_drew)); exact HO294.out) (Kd.R_base ho0) hb); have n1_ := Aside0.mk (Kd.R_lower (Kd.R_new' ho0 (Kd.R_lt (by (with_reducible repeat (first | apply Kd.R_alloc | apply Kd.R_drewN | apply Kd.R_drew)); exact HO294.out))) (below_size (by repeat (first | (with_reducible first | exact HB.out | apply below_alloc | apply pw_below_drewN | apply below_drew1) | exact HB.out)))); have n2_ := Aside0.mk (below_step (by repeat (first | (with_reducible first | exact HB.out | apply below_alloc | apply pw_below_drewN | apply below_drew1) | exact HB.out)) hb); clear HO294; clear HB; have HO294 := n0_; have HO299 := n1_; have HB := n2_; clear n0_ n1_ n2_; (try clear hb); (try clear hb2); (try clear hk); (try clear hi); (try clear ho0); obtain ⟨Ao15, co15, eo15⟩ := Kd.R_slice HO299.out; subst eo15) | ((with_reducible refine gate_callee (f := 34) rfl ?_); refine goesL_ (some 32) rfl rfl Try.func34 (by kernel_rfl) rfl #[.int .i64 a0, .slice Ao15 t297.length co15, .int .i64 a2] rfl (by (try simp only [List.map_toArray, List.map_cons, List.map_nil]); first | done | rfl | (simp only [List.length_drop, List.length_take]; rfl)) ?_; (with_reducible refine (impl_VanishAt.calls k a0 _ _ t297 a2 t300 t301 _ ?side1 ?side2 A9.out).mono ?_); (case side1 => repeat (first | exact (Kd.R_reads' HO299.out).2.2 | (with_reducible refine Kd.C_alloc ?_ _) | (with_reducible refine Kd.C_drewN ?_ _) | (with_reducible refine Kd.C_drew ?_))); (case side2 => exact (Kd.R_reads' HO299.out).2.1); rintro e w16 ⟨rfl, hb⟩; refine ⟨_, rfl, ?_⟩; have n0_ := Aside0.mk (Kd.R_below (by (with_reducible repeat (first | apply Kd.R_alloc | apply Kd.R_drewN | apply Kd.R_drew)); exact HO294.out) hb); have n1_ := Aside0.mk (Kd.R_below (by (with_reducible repeat (first | apply Kd.R_alloc | apply Kd.R_drewN | apply Kd.R_drew)); exact HO299.out) hb); have n2_ := Aside0.mk (below_step (by repeat (first | (with_reducible first | exact HB.out | apply below_alloc | apply pw_below_drewN | apply below_drew1) | exact HB.out)) hb); clear HO294; clear HO299; clear HB; have HO294 := n0_; have HO299 := n1_; have HB := n2_; clear n0_ n1_ n2_; (try clear hb); (try clear hb2); (try clear hk); (try clear hi)))
    (try simp only [Act.put, List.setIfInBounds_toArray, List.set_cons_zero, List.set_cons_succ])
    go_cut [42] (fun v42 wc => ∃ (kq : Nat) (x42_9 : Bool), v42 = .bool x42_9 ∧ Aside0 (laws_FnExactVanishAt.j0 kq l1 t297 x42_9 = some r) ∧ Aside0 (kq ≤ k) ∧ Aside0 (Kd.R (Kd.slice 44 (Kd.slice 2 (Kd.int .i64))) 34 wc w.heap.size (fun _ => True) (.slice Ao15 t297.length co15) t297) ∧ Aside0 (Below w.heap.size w wc))
    case first =>
      have H := HC10.out
      clear HC10
      by_cases c17 : (t300 != t295) = true
      · rw [if_pos c17] at H
        have c17b0 : (t300 != t295) = true := c17
        (try (have c17b1 : decide (t300 = t295) = false := by simpa using c17))
        (try (have c17b2 : (t300 == t295) = false := by simpa using c17))
        (try (have c17b3 : ¬ (t300 = t295) := by simpa using c17))
        clear c17
        (first | rw [c17b0] | (simp only [i64_w, i32_w]; rw [c17b0]) | skip)
        have H' := Aside0.mk H
        clear H
        go_wp2
        go_meet
        case rel => exact ⟨_, (true), (by first | rfl | (simp; done) | (simp [*]; done)), H', ⟨by first | omega | exact Nat.le_refl _⟩, ⟨by (with_reducible repeat (first | apply Kd.R_alloc | apply Kd.R_drewN | apply Kd.R_drew)); exact Kd.R_mono HO299.out (fun _ hk => trivial)⟩, ⟨by repeat (first | (with_reducible first | exact HB.out | apply below_alloc | apply pw_below_drewN | apply below_drew1) | exact HB.out)⟩⟩
      · rw [if_neg c17] at H
        have c17b0 : (t300 != t295) = false := by simpa using c17
        (try (have c17b1 : decide (t300 = t295) = true := by simpa using c17))
        (try (have c17b2 : (t300 == t295) = true := by simpa using c17))
        clear c17
        (first | rw [c17b0] | (simp only [i64_w, i32_w]; rw [c17b0]) | skip)
        have H' := Aside0.mk H
        clear H
        go_wp2
        go_meet
        case rel => exact ⟨_, ((t301 != t296)), (by first | rfl | (simp; done) | (simp [*]; done)), H', ⟨by first | omega | exact Nat.le_refl _⟩, ⟨by (with_reducible repeat (first | apply Kd.R_alloc | apply Kd.R_drewN | apply Kd.R_drew)); exact Kd.R_mono HO299.out (fun _ hk => trivial)⟩, ⟨by repeat (first | (with_reducible first | exact HB.out | apply below_alloc | apply pw_below_drewN | apply below_drew1) | exact HB.out)⟩⟩
    case rest =>
      clear HC10
      try clear c1
      try clear c2
      try clear p2
      try clear c3
      try clear c5
      try clear c5b0
      try clear c8
      try clear c17
      try clear c17b0
      try clear c17b1
      try clear c17b2
      obtain ⟨kq, x42_9, rfl, HA, HJ9, HO_10, HB⟩ := hcut
      cases kq with
      | zero => exact absurd HA.out (by simp [laws_FnExactVanishAt.j0])
      | succ kj9 =>
        have H := HA.out
        clear HA
        simp only [laws_FnExactVanishAt.j0] at H
        by_cases c18 : x42_9 = true
        · subst c18
          have H1 : (some false) = some r := by rw [if_pos rfl] at H; exact H
          clear H
          have H := H1
          clear H1
          obtain rfl := Option.some.inj H
          go_wp2
          go_ret
          exact ⟨by first | rfl | (simp [errW_none, errW_some] <;> rfl) | (simp [*, errW_none, errW_some] <;> rfl), by repeat (first | (with_reducible first | exact HB.out | apply below_alloc | apply pw_below_drewN | apply below_drew1) | exact HB.out)⟩
        · replace c18 := Bool.eq_false_iff.mpr c18
          subst c18
          have H1 : ((laws_toInt64SSS.f kj9 l1).bind fun t302 => ((laws_eqInt64SSS.f kj9 t297 t302).bind fun t305 => (if t305 = true then (some true) else (some false)))) = some r := by rw [if_neg (show ¬ (false = true) by decide)] at H; exact H
          clear H
          have H := H1
          clear H1
          replace H := Option.bind_eq_some_iff.mp H
          obtain ⟨t302, A190, H⟩ := H
          replace H : ((laws_eqInt64SSS.f kj9 t297 t302).bind fun t305 => (if t305 = true then (some true) else (some false))) = some r := H
          have A19 := Aside0.mk A190
          clear A190
          replace H := Option.bind_eq_some_iff.mp H
          obtain ⟨t305, A200, H⟩ := H
          replace H : (if t305 = true then (some true) else (some false)) = some r := H
          have A20 := Aside0.mk A200
          clear A200
          by_cases c21 : t305 = true
          · subst c21
            have H1 : (some true) = some r := by rw [if_pos rfl] at H; exact H
            clear H
            have H := H1
            clear H1
            obtain rfl := Option.some.inj H
            go_wp2_with (first | ((with_reducible refine gate_callee (f := 22) rfl ?_); refine goesL_ (some 45) rfl rfl Try.func22 (by kernel_rfl) rfl #[.slice A1 l1.length c1] rfl (by (try simp only [List.map_toArray, List.map_cons, List.map_nil]); first | done | rfl | (simp only [List.length_drop, List.length_take]; rfl)) ?_; (with_reducible refine (laws_toInt64SSS.calls kj9 _ _ l1 t302 _ ?side1 ?side2 A19.out).mono ?_); (case side1 => repeat (first | exact (Kd.C_below HR1.out HB.out) | (with_reducible refine Kd.C_alloc ?_ _) | (with_reducible refine Kd.C_drewN ?_ _) | (with_reducible refine Kd.C_drew ?_))); (case side2 => exact HC1.out); rintro e w22 ⟨v303, rfl, ho0, hb⟩; refine ⟨_, rfl, ?_⟩; have n0_ := Aside0.mk (Kd.R_elder' (by (with_reducible repeat (first | apply Kd.R_alloc | apply Kd.R_drewN | apply Kd.R_drew)); exact HO_10.out) (Kd.R_base ho0) hb); have n1_ := Aside0.mk (Kd.R_lower (Kd.R_new' ho0 (Kd.R_lt (by (with_reducible repeat (first | apply Kd.R_alloc | apply Kd.R_drewN | apply Kd.R_drew)); exact HO_10.out))) (below_size (by repeat (first | (with_reducible first | exact HB.out | apply below_alloc | apply pw_below_drewN | apply below_drew1) | exact HB.out)))); have n2_ := Aside0.mk (below_step (by repeat (first | (with_reducible first | exact HB.out | apply below_alloc | apply pw_below_drewN | apply below_drew1) | exact HB.out)) hb); clear HO_10; clear HB; have HO_10 := n0_; have HO304 := n1_; have HB := n2_; clear n0_ n1_ n2_; (try clear hb); (try clear hb2); (try clear hk); (try clear hi); (try clear ho0); obtain ⟨Ao23, co23, eo23⟩ := Kd.R_slice HO304.out; subst eo23) | ((with_reducible refine gate_callee (f := 17) rfl ?_); refine goesL_ (some 46) rfl rfl Try.func17 (by kernel_rfl) rfl #[.slice Ao15 t297.length co15, .slice Ao23 t302.length co23] rfl (by (try simp only [List.map_toArray, List.map_cons, List.map_nil]); first | done | rfl | (simp only [List.length_drop, List.length_take]; rfl)) ?_; (with_reducible refine (laws_eqInt64SSS.calls kj9 _ _ t297 _ _ t302 true _ ?side1 ?side2 ?side3 ?side4 A20.out).mono ?_); (case side1 => repeat (first | exact (Kd.R_reads' HO_10.out).2.2 | (with_reducible refine Kd.C_alloc ?_ _) | (with_reducible refine Kd.C_drewN ?_ _) | (with_reducible refine Kd.C_drew ?_))); (case side2 => exact (Kd.R_reads' HO_10.out).2.1); (case side3 => repeat (first | exact (Kd.R_reads' HO304.out).2.2 | (with_reducible refine Kd.C_alloc ?_ _) | (with_reducible refine Kd.C_drewN ?_ _) | (with_reducible refine Kd.C_drew ?_))); (case side4 => exact (Kd.R_reads' HO304.out).2.1); rintro e w' ⟨rfl, ⟨nd, rfl⟩⟩; refine ⟨_, rfl, ?_⟩))
            go_ret
            exact ⟨by first | rfl | (simp [errW_none, errW_some] <;> rfl) | (simp [*, errW_none, errW_some] <;> rfl), by repeat (first | (with_reducible first | exact HB.out | apply below_alloc | apply pw_below_drewN | apply below_drew1) | exact HB.out)⟩
          · replace c21 := Bool.eq_false_iff.mpr c21
            subst c21
            have H1 : (some false) = some r := by rw [if_neg (show ¬ (false = true) by decide)] at H; exact H
            clear H
            have H := H1
            clear H1
            obtain rfl := Option.some.inj H
            go_wp2_with (first | ((with_reducible refine gate_callee (f := 22) rfl ?_); refine goesL_ (some 45) rfl rfl Try.func22 (by kernel_rfl) rfl #[.slice A1 l1.length c1] rfl (by (try simp only [List.map_toArray, List.map_cons, List.map_nil]); first | done | rfl | (simp only [List.length_drop, List.length_take]; rfl)) ?_; (with_reducible refine (laws_toInt64SSS.calls kj9 _ _ l1 t302 _ ?side1 ?side2 A19.out).mono ?_); (case side1 => repeat (first | exact (Kd.C_below HR1.out HB.out) | (with_reducible refine Kd.C_alloc ?_ _) | (with_reducible refine Kd.C_drewN ?_ _) | (with_reducible refine Kd.C_drew ?_))); (case side2 => exact HC1.out); rintro e w24 ⟨v303, rfl, ho0, hb⟩; refine ⟨_, rfl, ?_⟩; have n0_ := Aside0.mk (Kd.R_elder' (by (with_reducible repeat (first | apply Kd.R_alloc | apply Kd.R_drewN | apply Kd.R_drew)); exact HO_10.out) (Kd.R_base ho0) hb); have n1_ := Aside0.mk (Kd.R_lower (Kd.R_new' ho0 (Kd.R_lt (by (with_reducible repeat (first | apply Kd.R_alloc | apply Kd.R_drewN | apply Kd.R_drew)); exact HO_10.out))) (below_size (by repeat (first | (with_reducible first | exact HB.out | apply below_alloc | apply pw_below_drewN | apply below_drew1) | exact HB.out)))); have n2_ := Aside0.mk (below_step (by repeat (first | (with_reducible first | exact HB.out | apply below_alloc | apply pw_below_drewN | apply below_drew1) | exact HB.out)) hb); clear HO_10; clear HB; have HO_10 := n0_; have HO304 := n1_; have HB := n2_; clear n0_ n1_ n2_; (try clear hb); (try clear hb2); (try clear hk); (try clear hi); (try clear ho0); obtain ⟨Ao25, co25, eo25⟩ := Kd.R_slice HO304.out; subst eo25) | ((with_reducible refine gate_callee (f := 17) rfl ?_); refine goesL_ (some 46) rfl rfl Try.func17 (by kernel_rfl) rfl #[.slice Ao15 t297.length co15, .slice Ao25 t302.length co25] rfl (by (try simp only [List.map_toArray, List.map_cons, List.map_nil]); first | done | rfl | (simp only [List.length_drop, List.length_take]; rfl)) ?_; (with_reducible refine (laws_eqInt64SSS.calls kj9 _ _ t297 _ _ t302 false _ ?side1 ?side2 ?side3 ?side4 A20.out).mono ?_); (case side1 => repeat (first | exact (Kd.R_reads' HO_10.out).2.2 | (with_reducible refine Kd.C_alloc ?_ _) | (with_reducible refine Kd.C_drewN ?_ _) | (with_reducible refine Kd.C_drew ?_))); (case side2 => exact (Kd.R_reads' HO_10.out).2.1); (case side3 => repeat (first | exact (Kd.R_reads' HO304.out).2.2 | (with_reducible refine Kd.C_alloc ?_ _) | (with_reducible refine Kd.C_drewN ?_ _) | (with_reducible refine Kd.C_drew ?_))); (case side4 => exact (Kd.R_reads' HO304.out).2.1); rintro e w' ⟨rfl, ⟨nd, rfl⟩⟩; refine ⟨_, rfl, ?_⟩))
            go_ret
            exact ⟨by first | rfl | (simp [errW_none, errW_some] <;> rfl) | (simp [*, errW_none, errW_some] <;> rfl), by repeat (first | (with_reducible first | exact HB.out | apply below_alloc | apply pw_below_drewN | apply below_drew1) | exact HB.out)⟩

end Go.Proofs.Ytbpipmkgclkhgaa.P
