/- What a call of each Go function named below comes to is what the plain Lean function beside it says. Made by a program of this session out of the print of the translation; Lean checks it. -/
import Derived.Test.YtbpipmkgclkhgaaPx0
import Derived.Test.YtbpipmkgclkhgaaPx3
import Derived.LoopIn
import Derived.LoopNIn
import Derived.OwnWalkIn
import Derived.RangeFuncBound
import Derived.RangeFuncCalls
import Derived.RangeFuncLeaves
import Derived.RangeFuncNested
import Derived.Shelf.Abstract
import Derived.Shelf.RegionOpen
import Derived.TacticsInMore
import Derived.Test.YtbpipmkgclkhgaaHand
namespace Go.Proofs.Ytbpipmkgclkhgaa.P
open Go.RowKit Go.Proofs.YtbpipmkgclkhgaaW.PrintWords Go.Proofs.YtbpipmkgclkhgaaW.PrintLast Go.Proofs.YtbpipmkgclkhgaaW.PrintMore
attribute [local go_sem] max2_int min2_int max_two min_two max_three min_three max_four min_four   -- for this text's walks alone
set_option linter.unusedVariables false
set_option linter.unusedSimpArgs false


/-! ### impl_PowerSum: function 39, by hand -/
theorem impl_PowerSum_mul (n : Nat) (h : n ≤ 13) : bits_Mul.f 1 (n : Int) = some (0, (n : Int)) := by
  rcases (show n = 0 ∨ n = 1 ∨ n = 2 ∨ n = 3 ∨ n = 4 ∨ n = 5 ∨ n = 6 ∨ n = 7 ∨ n = 8 ∨ n = 9 ∨ n = 10 ∨ n = 11 ∨ n = 12 ∨ n = 13 by omega) with rfl | rfl | rfl | rfl | rfl | rfl | rfl | rfl | rfl | rfl | rfl | rfl | rfl | rfl <;> decide
/-- Many numbers are written, one behind the other. -/
theorem impl_PowerSum_ones {base g n cap : Nat} {w0 : World} : ∀ m o (w : World) (x : List Int), (Kd.int .i64).R 2 w base (fun _ => True) (.slice (some ⟨g, 0, none⟩) n cap) x → Below w0.heap.size w0 w → w0.heap.size ≤ g → o + m ≤ x.length →
    (Kd.int .i64).R 2 (w.setCells g o (List.replicate m (.int .i64 1))) base (fun _ => True) (.slice (some ⟨g, 0, none⟩) n cap) (x.take o ++ List.replicate m 1 ++ x.drop (o + m)) ∧ Below w0.heap.size w0 (w.setCells g o (List.replicate m (.int .i64 1)))
  | 0, o, w, x, h, hb, _, _ => ⟨by simp only [List.replicate_zero, World.setCells, List.append_nil, Nat.add_zero, List.take_append_drop]; exact h, hb⟩
  | m + 1, o, w, x, h, hb, hg, hl => by
    have h1 := Kd.R_putn h (o : Int) 1
    rw [Int.toNat_natCast] at h1
    obtain ⟨a, b⟩ := impl_PowerSum_ones m (o + 1) (w.setCell ⟨g, o, none⟩ (.int .i64 1)) (x.set o 1) h1 (below_set hb hg) hg (by rw [List.length_set]; omega)
    rw [List.replicate_succ, World.setCells]
    refine ⟨?_, b⟩
    have e : (x.set o 1).take (o + 1) ++ List.replicate m 1 ++ (x.set o 1).drop (o + 1 + m) = x.take o ++ (1 :: List.replicate m 1) ++ x.drop (o + (m + 1)) := by
      rw [List.take_succ_eq_append_getElem (by rw [List.length_set]; omega), List.take_set_of_le (Nat.le_refl _), List.getElem_set_self, List.drop_set_of_lt (by omega), show o + 1 + m = o + (m + 1) from by omega]
      simp
    rw [e] at a
    exact a
set_option maxHeartbeats 8000000 in
set_option maxRecDepth 100000 in
theorem impl_PowerSum_repeat (n : Nat) (h1 : 1 ≤ n) (h13 : n ≤ 13) (ad : Addr) (c : Nat) (w : World) (hx : w.cell? ad = some (.int .i64 1)) :
    Calls Try.prog 76 #[.slice (some ad) 1 c, .int .i64 n] w fun e w' => ∃ v : Value, e = .returned v ∧ (Kd.int .i64).R 2 w' w.heap.size (fun _ => True) v (List.replicate n 1) ∧ Below w.heap.size w w' := by
  have hu64 : IntKind.u64.wrap (n : Int) = n := by simp only [IntKind.wrap_u64]; omega
  have hi64 : IntKind.i64.wrap (n : Int) = n := by simp only [IntKind.wrap_i64]; omega
  have b0 : decide ((n : Int) < 0) = false := decide_eq_false (by omega)
  have b1 : decide ((9223372036854775807 : Int) < (n : Int)) = false := decide_eq_false (by omega)
  have HM := Aside0.mk (impl_PowerSum_mul n h13)
  have H1 := Aside0.mk h1
  have H13 := Aside0.mk h13
  have HX := Aside0.mk hx
  clear hx
  go_enter Try.func76, Try.ntmps76
  go_wp2_with (first | (go_at_call 110; refine (bits_Mul.calls 1 n 0 n _ HM.out).mono ?_; rintro e w' ⟨rfl, nd, rfl⟩) | ((with_reducible refine gate_dst (N := 30) rfl ?_); refine Kd.R_make (Kd.int .i64) _ 2 rfl (N := 30) rfl 44 _ _ rfl (n : Int) rfl rfl Try.underlying44 (.int .i64 0) 8 info2 rfl (by decide) (by omega) 0 (ok := fun _ => True) (okp := fun _ => True) rfl (fun _ hk => hk) trivial (by omega) (by rw [Int.toNat_natCast]; omega) (Below.refl _ _) (Nat.le_refl _) ?_; intro v30 w7 ho5 hb hg_ hnew_; clear hg_ hnew_; obtain ⟨g, cap, ev, hgb, hgl, hcc⟩ := Kd.R_form ho5 (by rw [List.length_replicate, Int.toNat_natCast]; exact H1.out); rw [List.length_replicate, Int.toNat_natCast] at ev; subst ev; have hnc := (Kd.R_reads' ho5).2.1; obtain ⟨y0, f0⟩ := Kd.R_celln 0 ho5 (0 : Int) (Int.le_refl _) (by omega); rw [Int.toNat_natCast] at ho5; have HN := Aside0.mk ho5; have HB := Aside0.mk (below_step (pw_below_drewN (Below.refl w.heap.size w) nd) hb); have HG := Aside0.mk (show w.heap.size ≤ g from hgb); have HNC := Aside0.mk hnc; have hx7 := hb.cell (World.block_lt_of_cell? _ _ HX.out); have hcp : ∀ (W : World) (ty : TypeId), W = w7 → (Builtin.copy_ #[44, 44] ty #[.slice (some ⟨g, 0, none⟩) n cap, .slice (some ad) 1 c]).run Try.prog W = .ok (.int .i64 1) (w7.setCell ⟨g, 0, none⟩ (.int .i64 1)) := (by rintro W ty rfl; have := run_copy_cells (P := Try.prog) W 44 44 ty 2 g 0 n cap ad 1 c [.int .i64 1] Try.underlying44 (by simpa using congrArg (fun o => o.map (fun q => q.2.1)) info2) (by simp [Nat.min_eq_left H1.out]) (by intro j v hj; match j, hj with | 0, hj => (obtain rfl : (Value.int .i64 1) = v := by simpa using hj); rw [Addr.add_zero']; exact hx7.trans HX.out) (by intro j hj; obtain rfl : j = 0 := (by simp at hj; omega); rw [show (⟨g, 0 + 0, none⟩ : Addr) = ⟨g, (0 : Int).toNat, none⟩ from rfl, y0]; rfl) (by intro j hj; obtain rfl : j = 0 := (by simp at hj; omega); exact f0) (by simp [Value.oneCell']); exact this); clear hgl hcc y0 f0 ho5 hb))
  go_loopg [8] n (fun gg s8 wr => ∃ m : Nat, 1 ≤ m ∧ m ≤ n ∧ n - m ≤ gg ∧ s8 = .int .i64 m ∧ Aside0 ((Kd.int .i64).R 2 wr w.heap.size (fun _ => True) (.slice (some ⟨g, 0, none⟩) n cap) (List.replicate m 1 ++ List.replicate (n - m) 0)) ∧ Aside0 (Below w.heap.size w wr))
  case atStart =>
    refine ⟨1, Nat.le_refl _, H1.out, by omega, rfl, ⟨?_⟩, ⟨below_set HB.out HG.out⟩⟩
    have h := Kd.R_putn HN.out (0 : Int) 1
    obtain ⟨q, hq⟩ : ∃ q, n = q + 1 := ⟨n - 1, by have := H1.out; omega⟩
    have e : (List.replicate n (0 : Int)).set (0 : Int).toNat 1 = List.replicate 1 1 ++ List.replicate (n - 1) 0 := by
      rw [hq, List.replicate_succ]
      rfl
    rw [e] at h
    exact h
  case round =>
    clear HN HB
    obtain ⟨m, hm1, hmn, hgg, rfl, HR, HBB⟩ := hrel
    by_cases hlt : m < n
    · have hltz : (m : Int) < (n : Int) := by omega
      obtain ⟨q, hq⟩ : ∃ q, Nat.min m (n - m) = q := ⟨_, rfl⟩
      have hq1 : q ≤ m := by rw [← hq]; exact Nat.min_le_left _ _
      have hq2 : q ≤ n - m := by rw [← hq]; exact Nat.min_le_right _ _
      have hq0 : 0 < q := by rw [← hq]; exact Nat.lt_min.2 ⟨by omega, by omega⟩
      have hcap := HNC.out
      have hlen : (List.replicate m (1 : Int) ++ List.replicate (n - m) 0).length = n := by rw [List.length_append, List.length_replicate, List.length_replicate]; omega
      have HRd := Aside0.mk (Kd.R_drew HR.out)
      have hcp : ∀ (W : World) (ty : TypeId), W = wr.drew → (Builtin.copy_ #[44, 44] ty #[.slice (some ⟨g, m, none⟩) (n - m) (cap - m), .slice (some ⟨g, 0, none⟩) m cap]).run Try.prog W = .ok (.int .i64 q) (wr.drew.setCells g m (List.replicate q (.int .i64 1))) := by
        rintro W ty rfl
        have := run_copy_cells (P := Try.prog) wr.drew 44 44 ty 2 g m (n - m) (cap - m) ⟨g, 0, none⟩ m cap (List.replicate q (.int .i64 1)) Try.underlying44 (by simpa using congrArg (fun o => o.map (fun q => q.2.1)) info2) (by rw [List.length_replicate]; exact hq.symm) (by
          intro j v hj
          rw [List.getElem?_replicate] at hj
          split at hj
          · rename_i hjq
            obtain rfl := Option.some.inj hj
            obtain ⟨h1, _⟩ := Kd.R_celln 0 HRd.out (j : Int) (by omega) (by omega)
            rw [Int.toNat_natCast] at h1
            rw [add_at, Nat.zero_add, h1]
            simp [rdOf, List.getD_eq_getElem?_getD, List.getElem?_append_left, show j < m by omega]
          · cases hj) (by
          intro j hj
          rw [List.length_replicate] at hj
          obtain ⟨h1, _⟩ := Kd.R_celln 0 HRd.out ((m + j : Nat) : Int) (by omega) (by omega)
          rw [Int.toNat_natCast] at h1
          rw [h1]; rfl) (by
          intro j hj
          rw [List.length_replicate] at hj
          obtain ⟨_, h1⟩ := Kd.R_celln 0 HRd.out ((m + j : Nat) : Int) (by omega) (by omega)
          rw [Int.toNat_natCast] at h1
          exact h1) (by intro v hv; rw [List.eq_of_mem_replicate hv]; rfl)
        rw [List.length_replicate] at this
        exact this
      have HZ := Aside0.mk (impl_PowerSum_ones q m wr.drew _ HRd.out (below_drew1 HBB.out) HG.out (by rw [hlen]; omega))
      have pm : (0 ≤ (m : Int)) = True := eq_true (by omega)
      have qm : ((m : Int) ≤ (n : Int)) = True := eq_true (by omega)
      have qm1 : (m ≤ n) = True := eq_true hmn
      have qm2 : ((m : Int) ≤ (cap : Int)) = True := eq_true (by omega)
      have qm3 : (m ≤ cap) = True := eq_true (by omega)
      have qm4 : (cap = m) = False := eq_false (by omega)
      have qm5 : (m = cap) = False := eq_false (by omega)
      clear hlen
      go_wp2
      go_region
      all_goals go_wp2
      go_roundg (n - (m + q))
      case measure => omega
      case rel =>
        refine ⟨m + q, by omega, by omega, by omega, ?_, ⟨?_⟩, ⟨HZ.out.2⟩⟩
        · congr 1
        · have h := HZ.out.1
          have e1 : (List.replicate m (1 : Int) ++ List.replicate (n - m) 0).take m = List.replicate m 1 := by
            rw [List.take_left' (by rw [List.length_replicate])]
          have e2 : (List.replicate m (1 : Int) ++ List.replicate (n - m) 0).drop (m + q) = List.replicate (n - (m + q)) 0 := by
            rw [← List.drop_drop, List.drop_left' (by rw [List.length_replicate]), List.drop_replicate]
            congr 1
            omega
          rw [e1, e2, ← List.replicate_append_replicate.symm] at h
          exact h
    · have hltz : ¬ (m : Int) < (n : Int) := by omega
      obtain rfl : m = n := by omega
      go_wp2
      go_ret
      refine ⟨_, rfl, ?_, HBB.out⟩
      have := HR.out
      rwa [Nat.sub_self, List.replicate_zero, List.append_nil] at this

set_option maxHeartbeats 1000000 in
theorem impl_PowerSum_part (x : Int) (W : World) :
    Calls Try.prog 109 #[.int .i64 x] W fun e w' => e = .returned (.bool (!decide (1 ≤ x) || !decide (x ≤ 5))) ∧ Drawn0 W w' := by
  go_enter Try.func109, Try.ntmps109
  go_wp2_with (go_at_call 53; refine (Hand.within_calls x 1 5 _).mono ?_; rintro e w' ⟨rfl, nd, rfl⟩)
  go_ret
  exact ⟨rfl, by repeat (first | exact Drawn0.refl _ | apply Drawn0.step)⟩
/-- Are these parts of a composition? -/
def impl_PowerSum_isParts (l : List Int) (m : Nat) : Bool := decide (l.length ≤ m) && !(l.any fun x => !decide (1 ≤ x) || !decide (x ≤ 5))
set_option maxHeartbeats 2000000 in
theorem impl_PowerSum_parts (A : Option Addr) (c : Nat) (l : List Int) (m : Nat) (w : World) (hr : (Kd.int .i64).C w A l.length l) :
    Calls Try.prog 75 #[.slice A l.length c, .int .i64 m] w fun e w' => e = .returned (.bool (impl_PowerSum_isParts l m)) ∧ Drawn0 w w' := by
  have HR := Aside0.mk hr
  clear hr
  have eg := enters_of Try.func109 (by kernel_rfl) rfl
  unfold impl_PowerSum_isParts
  generalize hQ : (l.any fun x => !decide (1 ≤ x) || !decide (x ≤ 5)) = Q
  have HQ := Aside0.mk hQ
  clear hQ
  by_cases hm : l.length ≤ m
  · rw [decide_eq_true hm, Bool.true_and]
    have b0 : decide ((l.length : Int) ≤ (m : Int)) = true := decide_eq_true (by omega)
    have b1 : decide (l.length ≤ m) = true := decide_eq_true hm
    have b2 : (l.length ≤ m) = True := eq_true hm
    clear hm
    go_enter Try.func75, Try.ntmps75
    go_wp2_with (go_at_call 108; refine (Hand.containsFunc_ints 109 #[] eg (fun x => !decide (1 ≤ x) || !decide (x ≤ 5)) A c l _ (fun x q => impl_PowerSum_part x _) HR.out).mono ?_; rw [HQ.out]; rintro e w' ⟨rfl, nd, rfl⟩)
    go_ret
    exact ⟨rfl, by repeat (first | exact Drawn0.refl _ | apply Drawn0.step)⟩
  · rw [decide_eq_false hm, Bool.false_and]
    have b0 : decide ((l.length : Int) ≤ (m : Int)) = false := decide_eq_false (by omega)
    have b1 : decide (l.length ≤ m) = false := decide_eq_false hm
    have b2 : (l.length ≤ m) = False := eq_false hm
    clear hm
    go_enter Try.func75, Try.ntmps75
    go_wp2
    go_ret
    exact ⟨rfl, by repeat (first | exact Drawn0.refl _ | apply Drawn0.step)⟩
section
open Go.Shelf
attribute [local go_sem] Oper.semAt_some
theorem impl_PowerSum_block (ad : Addr) (j : Nat) : (ad.add j).block = ad.block := by
  unfold Addr.add
  split <;> rfl
/-- The places of a list, from its end. -/
def impl_PowerSum_seq (n : Nat) : List (Fin n) := (List.finRange n).reverse
theorem impl_PowerSum_seq_length (n : Nat) : (impl_PowerSum_seq n).length = n := by simp [impl_PowerSum_seq]
theorem impl_PowerSum_seq_succ (n k : Nat) (h : k < n) : (impl_PowerSum_seq n).take (k + 1) = (impl_PowerSum_seq n).take k ++ [⟨n - 1 - k, by omega⟩] := by
  rw [List.take_succ_eq_append_getElem (by rw [impl_PowerSum_seq_length]; exact h)]
  congr 2
  simp [impl_PowerSum_seq, List.getElem_reverse]
set_option maxHeartbeats 1000000 in
theorem impl_PowerSum_back (F : Fence) (n : Nat) (h5 : F.fn 77) (hro : F.round = none) (A : Option Addr) (len cap : Nat) (w : World) :
    CallsIn F n Try.prog 77 #[.slice A len cap] w fun e w' => e = .returned (.func (.func 111) #[] #[.pointer (some ⟨w.heap.size, 0, none⟩)]) ∧ w' = w.alloc (.cells #[.slice A len cap] 44) := by
  refine callsIn_of_wp Try.func77 rfl h5 ?_ hro
  simp only [Try.ntmps77, List.size_toArray, List.length_cons, List.length_nil, Nat.reduceAdd, Nat.reduceSub, Array.replicate_succ, Array.replicate_zero, List.push_toArray, List.append_toArray, List.nil_append, List.cons_append]
  gi_wp2
  go_ret
  exact ⟨rfl, rfl⟩
/-- What a round keeps: all below n₀, and the box of the list that is walked. -/
def impl_PowerSum_keep (n₀ B : Nat) (W W' : World) : Prop := Below n₀ W W' ∧ ∀ v, Boxed W B 44 v → Boxed W' B 44 v
theorem impl_PowerSum_keep_refl (n₀ B : Nat) (W : World) : impl_PowerSum_keep n₀ B W W := ⟨Below.refl _ _, fun _ h => h⟩
theorem impl_PowerSum_keep_t {n₀ B : Nat} {W W1 W2 : World} (h : impl_PowerSum_keep n₀ B W W1) (h' : impl_PowerSum_keep n₀ B W1 W2) : impl_PowerSum_keep n₀ B W W2 := ⟨h.1.trans h'.1, fun v hv => h'.2 v (h.2 v hv)⟩
theorem impl_PowerSum_keep_b {n₀ B : Nat} {w : World} (hn : n₀ ≤ w.heap.size) (hB : B < w.heap.size) (W : World) (l : Nat) (o o' : Obj) (hl : w.heap.size ≤ l) (ho : W.heap[l]? = some o) (hc : o.isCells = false) (hk : o.isWalk = false) : impl_PowerSum_keep n₀ B W (W.putObj l o') :=
  ⟨belowK_b hn W l o o' hl ho hc hk, fun v hv => hv.kept (grownBy_putObj' W l o') (by intro e; cases e; omega)⟩
set_option maxRecDepth 100000 in
set_option maxHeartbeats 4000000 in
theorem impl_PowerSum_back1 (F : Fence) (n : Nat) (h7 : F.fn 111) (hro : F.round = none) (hn : 1 ≤ n) (l Bs n₀ cap : Nat) (A : Option Addr) (zs : List Int) (hreach : zs.length ≤ 1000) (J Jx : List (Fin zs.length) → World → Prop)
    (hY : ∀ pre x W, J pre W → pre.length < zs.length → YieldAt F (n - 1) Try.prog l #[.int .i64 (x.1 : Int), .int .i64 zs[x.1]] W fun e W' =>
      (e = .returned (.bool true) ∧ J (pre ++ [x]) W' ∧ impl_PowerSum_keep n₀ Bs W W') ∨ (e = .returned (.bool false) ∧ Jx (pre ++ [x]) W'))
    (W : World) (hBs : Boxed W Bs 44 (.slice A zs.length cap)) (hc : ∀ j, j < zs.length → ∃ ad : Addr, A = some ad ∧ ad.block < n₀ ∧ ∃ h : j < zs.length, W.cell? (ad.add j) = some (.int .i64 zs[j])) (h0 : J [] W) :
    CallsIn F n Try.prog 111 #[.func (.yield l) #[] #[], .pointer (some ⟨Bs, 0, none⟩)] W fun e W' => (∃ v, e = .returned v) ∧
      ((∃ ys, ys = impl_PowerSum_seq zs.length ∧ J ys W') ∨ (∃ pre, (∃ k, k ≤ zs.length ∧ pre = (impl_PowerSum_seq zs.length).take k) ∧ Jx pre W')) := by
  refine callsIn_of_wp Try.func111 rfl h7 ?_ hro
  simp only [Try.ntmps111, List.size_toArray, List.length_cons, List.length_nil, Nat.reduceAdd, Nat.reduceSub, Array.replicate_succ, Array.replicate_zero, List.push_toArray, List.append_toArray, List.nil_append, List.cons_append]
  have hBc := hBs.cell
  gi_wp2
  gi_loopw [3] (fun i wr => ∃ k : Nat, k ≤ zs.length ∧ i = .int .i64 ((zs.length : Int) - 1 - k) ∧ J ((impl_PowerSum_seq zs.length).take k) wr ∧ impl_PowerSum_keep n₀ Bs W wr)
    (fun i _ => (intOf i + 1).toNat)
  case atStart => exact ⟨0, Nat.zero_le _, by go_num, by rw [List.take_zero]; exact h0, impl_PowerSum_keep_refl _ _ _⟩
  case round =>
    obtain ⟨k, hk, rfl, hJs, hnx⟩ := hrel
    have hbx : wr.cell? ⟨Bs, 0, none⟩ = some (.slice A zs.length cap) := (hnx.2 _ hBs).cell
    by_cases hlt : k < zs.length
    · obtain ⟨ad, hA, hab, hkl, hcell⟩ := hc (zs.length - 1 - k) (by omega)
      subst hA
      have hcx : wr.cell? (ad.add (zs.length - 1 - k)) = some (.int .i64 zs[zs.length - 1 - k]) := (hnx.1.cell (p := ad.add (zs.length - 1 - k)) (by rw [impl_PowerSum_block]; exact hab)).trans hcell
      obtain ⟨fn, tmps, assign, body, hy, hR⟩ := hY _ ⟨zs.length - 1 - k, hkl⟩ wr hJs (by rw [List.length_take, impl_PowerSum_seq_length]; omega)
      dsimp only at hy
      rw [show ((zs.length - 1 - k : Nat) : Int) = (zs.length : Int) - 1 - k from by omega] at hy
      have e1 : ((zs.length : Int) - 1 - k).toNat = zs.length - 1 - k := by omega
      have q1 : (0 ≤ (zs.length : Int) - 1 - k) = True := eq_true (by omega)
      have q2 : ((zs.length : Int) - 1 - k < (zs.length : Int)) = True := eq_true (by omega)
      have q3 : decide (0 ≤ (zs.length : Int) - 1 - k) = true := decide_eq_true (by omega)
      gi_wp2
      refine hR.mono ?_
      rintro e W3 (⟨rfl, hJ3, hk3⟩ | ⟨rfl, hJx3⟩)
      · gi_wp2
        go_roundw
        case rel => exact ⟨k + 1, by omega, by go_num, by rw [impl_PowerSum_seq_succ _ _ hlt]; exact hJ3, impl_PowerSum_keep_t hnx hk3⟩
        case measure => simp [intOf]; omega
      · gi_wp2
        refine bodyPost_ret (results_none rfl _ _ _) rfl ?_
        exact ⟨⟨_, rfl⟩, .inr ⟨_, ⟨k + 1, by omega, rfl⟩, by rw [impl_PowerSum_seq_succ _ _ hlt]; exact hJx3⟩⟩
    · obtain rfl : k = zs.length := by omega
      have q3 : decide (0 ≤ (zs.length : Int) - 1 - (zs.length : Int)) = false := decide_eq_false (by omega)
      gi_wp2
      go_end0
      exact ⟨⟨_, rfl⟩, .inl ⟨_, rfl, by rw [List.take_of_length_le (by rw [impl_PowerSum_seq_length]; omega)] at hJs; exact hJs⟩⟩
theorem impl_PowerSum_stops (F : Fence) (n : Nat) (h7 : F.fn 111) (hro : F.round = none) (hn : 1 ≤ n) (Bs n₀ cap : Nat) (A : Option Addr) (zs : List Int) (hreach : zs.length ≤ 1000) (w : World) (hn₀ : n₀ ≤ w.heap.size)
    (hBs : Boxed w Bs 44 (.slice A zs.length cap)) (hc : ∀ j, j < zs.length → ∃ ad : Addr, A = some ad ∧ ad.block < n₀ ∧ ∃ h : j < zs.length, w.cell? (ad.add j) = some (.int .i64 zs[j])) :
    SeqStopsK F n Try.prog 111 #[.pointer (some ⟨Bs, 0, none⟩)] (fun x : Fin zs.length => #[Value.int .i64 (x.1 : Int), Value.int .i64 zs[x.1]]) (impl_PowerSum_keep n₀ Bs) (fun ys => ys = impl_PowerSum_seq zs.length) (fun pre => ∃ k, k ≤ zs.length ∧ pre = (impl_PowerSum_seq zs.length).take k) zs.length w := fun l J Jx W hW _ _ hY h0 =>
  impl_PowerSum_back1 F n h7 hro hn l Bs n₀ cap A zs hreach J Jx hY W ((hW.block Bs hBs.lt).trans hBs) (fun j hj => by
    obtain ⟨ad, e1, e2, e3, e4⟩ := hc j hj
    exact ⟨ad, e1, e2, e3, (hW.cell (p := ad.add j) (by rw [impl_PowerSum_block]; omega)).trans e4⟩) h0
end
def impl_PowerSum_pwr (x : Int) : Nat → Int
  | 0 => 1
  | k + 1 => wrap64 (impl_PowerSum_pwr x k * x)
def impl_PowerSum_sz (x : Int) : Int := mx x (wrap64 (-x))
def impl_PowerSum_bad (pw b1 : Int) : Bool := decide (impl_PowerSum_sz b1 > 0) && decide (impl_PowerSum_sz pw > 1000000000000000 / impl_PowerSum_sz b1)
def impl_PowerSum_val (pw b1 nx : Int) : Int := wrap64 (wrap64 (pw * b1) + nx)
/-- One entry of a row. -/
def impl_PowerSum_step (list b : List Int) (p : Nat) (f : List Int) (i : Nat) : Option (List Int) :=
  if impl_PowerSum_bad (impl_PowerSum_pwr (rd list i) p) (rd b ((i : Int) + 1)) = true then none else if Hand.upToB (impl_PowerSum_val (impl_PowerSum_pwr (rd list i) p) (rd b ((i : Int) + 1)) (rd f ((i : Int) + 1))) 1000000000000000 = true then some (f.set i (impl_PowerSum_val (impl_PowerSum_pwr (rd list i) p) (rd b ((i : Int) + 1)) (rd f ((i : Int) + 1)))) else none
def impl_PowerSum_row (list b : List Int) (p : Nat) (pre : List (Fin list.length)) : Option (List Int) := pre.foldl (fun o x => o.bind fun f => impl_PowerSum_step list b p f x.1) (some (List.replicate (list.length + 1) 0))
def impl_PowerSum_out (list parts : List Int) (pre : List (Fin parts.length)) : Option (List Int) := pre.foldl (fun o x => o.bind fun b => impl_PowerSum_row list b parts[x.1].toNat (impl_PowerSum_seq list.length)) (some (List.replicate (list.length + 1) 1))
theorem impl_PowerSum_step_eq {list b f : List Int} {p i k : Nat} {xv bv fv : Int} (hx : rd list (i : Int) = xv) (hp : p = k) (hb : rd b ((i : Int) + 1) = bv) (hf : rd f ((i : Int) + 1) = fv) : impl_PowerSum_step list b p f i = if impl_PowerSum_bad (impl_PowerSum_pwr xv k) bv = true then none else if Hand.upToB (impl_PowerSum_val (impl_PowerSum_pwr xv k) bv fv) 1000000000000000 = true then some (f.set i (impl_PowerSum_val (impl_PowerSum_pwr xv k) bv fv)) else none := by
  subst hx hp hb hf
  rfl
theorem impl_PowerSum_row_snoc (list b : List Int) (p : Nat) (pre : List (Fin list.length)) (x : Fin list.length) : impl_PowerSum_row list b p (pre ++ [x]) = (impl_PowerSum_row list b p pre).bind fun f => impl_PowerSum_step list b p f x.1 := by simp [impl_PowerSum_row]
theorem impl_PowerSum_out_snoc (list parts : List Int) (pre : List (Fin parts.length)) (x : Fin parts.length) : impl_PowerSum_out list parts (pre ++ [x]) = (impl_PowerSum_out list parts pre).bind fun b => impl_PowerSum_row list b parts[x.1].toNat (impl_PowerSum_seq list.length) := by simp [impl_PowerSum_out]
theorem impl_PowerSum_row_none (list b : List Int) (p : Nat) (pre rest : List (Fin list.length)) (h : impl_PowerSum_row list b p pre = none) : impl_PowerSum_row list b p (pre ++ rest) = none := by
  unfold impl_PowerSum_row at h ⊢
  rw [List.foldl_append, h]
  induction rest with
  | nil => rfl
  | cons x rest ih => exact ih
theorem impl_PowerSum_out_none (list parts : List Int) (pre rest : List (Fin parts.length)) (h : impl_PowerSum_out list parts pre = none) : impl_PowerSum_out list parts (pre ++ rest) = none := by
  unfold impl_PowerSum_out at h ⊢
  rw [List.foldl_append, h]
  induction rest with
  | nil => rfl
  | cons x rest ih => exact ih
def impl_PowerSum_res (list parts : List Int) : Int × Int := match impl_PowerSum_out list parts (impl_PowerSum_seq parts.length) with | none => (0, 3) | some b => (rd b 0, 0)
def impl_PowerSum.f (l0 : List Int) (l1 : List Int) : Option (Int × Int) := (impl_areNumbers.f l0).bind fun t => if t = true then (if impl_PowerSum_isParts l1 6 = true then some (impl_PowerSum_res l0 l1) else some (0, 2)) else some (0, 2)
theorem impl_PowerSum_results {tmps : Array Value} {W : World} {b4 b5 : Nat} {r1 r2 : Int} (h4 : tmps.getD 4 undef = .pointer (some ⟨b4, 0, none⟩)) (h5 : tmps.getD 5 undef = .pointer (some ⟨b5, 0, none⟩)) (c4 : Boxed W b4 2 (.int .i64 r1)) (c5 : Boxed W b5 2 (.int .i64 r2)) :
    (results Try.f39 tmps).run Try.prog W = .ok (.tuple #[.int .i64 r1, .int .i64 r2]) W := by
  have h4' := c4.cell
  have h5' := c5.cell
  rw [Array.getD_eq_getD_getElem?] at h4 h5
  simp [results, Try.f39, go_sem, h4, h5, h4', h5']
theorem impl_PowerSum_boxed_below {w w1 : World} {B : Nat} {t : TypeId} {v : Value} (h : Boxed w B t v) (hb : Below w.heap.size w w1) : Boxed w1 B t v := (hb.block B h.lt).trans h
set_option maxHeartbeats 4000000 in
set_option maxRecDepth 100000 in
theorem impl_PowerSum_no (A0 : Option Addr) (c0 : Nat) (l0 : List Int) (A1 : Option Addr) (c1 : Nat) (l1 : List Int) (w : World) (hr0 : Kd.C (Kd.int .i64) w A0 l0.length l0) (hc0 : l0.length ≤ c0) (h : impl_areNumbers.f l0 = some false) :
    Calls Try.prog 39 #[.slice A0 l0.length c0, .slice A1 l1.length c1] w fun e w' => e = .returned (.tuple #[.int .i64 0, .int .i64 2]) ∧ Below w.heap.size w w' := by
  have HR := Aside0.mk hr0
  have HC := Aside0.mk hc0
  have HN := Aside0.mk h
  clear hr0 hc0 h
  have B4 := Aside0.mk ((Boxed.new (w.alloc (.cells #[.slice A0 l0.length c0] 44)) 2 (.int .i64 0)).alloc (.cells #[.int .i64 0] 2))
  have B5 := Aside0.mk (Boxed.new ((w.alloc (.cells #[.slice A0 l0.length c0] 44)).alloc (.cells #[.int .i64 0] 2)) 2 (.int .i64 0))
  have HB := Aside0.mk (show Below w.heap.size w (((w.alloc (.cells #[.slice A0 l0.length c0] 44)).alloc (.cells #[.int .i64 0] 2)).alloc (.cells #[.int .i64 0] 2)) from by repeat (first | exact Below.refl _ _ | apply below_alloc))
  simp only [World.size_alloc] at B4 B5
  go_enter Try.func39, Try.ntmps39
  go_wp2_with fail
  refine (impl_areNumbers.calls A0 c0 l0 false _ (by repeat (first | exact HR.out | refine Kd.C_alloc ?_ _)) HC.out HN.out).mono ?_
  rintro e w1 ⟨rfl, hb⟩
  have b4 := impl_PowerSum_boxed_below B4.out hb
  have b5 := impl_PowerSum_boxed_below B5.out hb
  have HB1 := Aside0.mk (below_step HB.out hb)
  have x4 := b4.cell
  have y4 := b4.frozen
  have x5 := b5.cell
  have y5 := b5.frozen
  have B4' := Aside0.mk b4
  have B5' := Aside0.mk b5
  clear b4 b5 hb B4 B5
  go_wp2
  refine bodyPost_ret (impl_PowerSum_results (b4 := w.heap.size + 1) (b5 := w.heap.size + 1 + 1) rfl rfl ((B4'.out.set _).other (by omega) _) ((B5'.out.other (by omega) _).set _)) rfl ?_
  exact ⟨rfl, below_set (below_set HB1.out (by omega)) (by omega)⟩
set_option maxHeartbeats 4000000 in
set_option maxRecDepth 100000 in
theorem impl_PowerSum_no2 (A0 : Option Addr) (c0 : Nat) (l0 : List Int) (A1 : Option Addr) (c1 : Nat) (l1 : List Int) (w : World) (hr0 : Kd.C (Kd.int .i64) w A0 l0.length l0) (hc0 : l0.length ≤ c0) (hr1 : Kd.C (Kd.int .i64) w A1 l1.length l1) (h : impl_areNumbers.f l0 = some true) (hp : impl_PowerSum_isParts l1 6 = false) :
    Calls Try.prog 39 #[.slice A0 l0.length c0, .slice A1 l1.length c1] w fun e w' => e = .returned (.tuple #[.int .i64 0, .int .i64 2]) ∧ Below w.heap.size w w' := by
  have HR := Aside0.mk hr0
  have HC := Aside0.mk hc0
  have HN := Aside0.mk h
  have HR1 := Aside0.mk hr1
  have HP := Aside0.mk hp
  clear hr0 hc0 h hr1 hp
  have B4 := Aside0.mk ((Boxed.new (w.alloc (.cells #[.slice A0 l0.length c0] 44)) 2 (.int .i64 0)).alloc (.cells #[.int .i64 0] 2))
  have B5 := Aside0.mk (Boxed.new ((w.alloc (.cells #[.slice A0 l0.length c0] 44)).alloc (.cells #[.int .i64 0] 2)) 2 (.int .i64 0))
  have HB := Aside0.mk (show Below w.heap.size w (((w.alloc (.cells #[.slice A0 l0.length c0] 44)).alloc (.cells #[.int .i64 0] 2)).alloc (.cells #[.int .i64 0] 2)) from by repeat (first | exact Below.refl _ _ | apply below_alloc))
  simp only [World.size_alloc] at B4 B5
  go_enter Try.func39, Try.ntmps39
  go_wp2_with fail
  refine (impl_areNumbers.calls A0 c0 l0 true _ (by repeat (first | exact HR.out | refine Kd.C_alloc ?_ _)) HC.out HN.out).mono ?_
  rintro e w1 ⟨rfl, hb⟩
  have B4' := Aside0.mk (impl_PowerSum_boxed_below B4.out hb)
  have B5' := Aside0.mk (impl_PowerSum_boxed_below B5.out hb)
  have HB1 := Aside0.mk (below_step HB.out hb)
  clear hb B4 B5
  go_wp2_with fail
  refine (impl_PowerSum_parts A1 c1 l1 6 _ (Kd.C_below HR1.out HB1.out)).mono ?_
  rw [HP.out]
  rintro e w2 ⟨rfl, q, rfl⟩
  have x4 := B4'.out.cell
  have y4 := B4'.out.frozen
  have x5 := B5'.out.cell
  have y5 := B5'.out.frozen
  go_wp2
  refine bodyPost_ret (impl_PowerSum_results (b4 := w.heap.size + 1) (b5 := w.heap.size + 1 + 1) rfl rfl ((Boxed.set (W := w1.drewN q) _ B4'.out).other (by omega) _) ((Boxed.other (W := w1.drewN q) B5'.out (by omega) _).set _)) rfl ?_
  exact ⟨rfl, below_set (below_set (pw_below_drewN HB1.out q) (by omega)) (by omega)⟩
set_option maxHeartbeats 1000000 in
theorem impl_PowerSum_size (x : Int) (w : World) :
    Calls Try.prog 78 #[.int .i64 x] w fun e w' => e = .returned (.int .i64 (impl_PowerSum_sz x)) ∧ w' = w := by
  unfold impl_PowerSum_sz
  go_enter Try.func78, Try.ntmps78
  go_wp2
  · go_ret
    exact ⟨by congr 2; simp only [mx]; split <;> first | rfl | omega, rfl⟩
  · go_ret
    exact ⟨by congr 2; simp only [mx]; split <;> first | rfl | omega, rfl⟩
theorem impl_PowerSum_made (n : Nat) (hn : n ≤ 1000) (W : World) (base : Nat) (hb : base ≤ W.heap.size) (ok : Nat → Prop) (hok : ok W.heap.size) :
    (Kd.int .i64).R 2 (W.alloc (.cells (madeCells #[.int .i64 0] n) 2)) base ok (.slice (some ⟨W.heap.size, 0, none⟩) n n) (List.replicate n 0) := by
  have hrep : Reps ((Kd.int .i64).M W base ok) 1 (List.replicate n (0 : Int)) (madeCells #[Value.int .i64 0] n).toList := by
    have := Kd.reps_made (R := (Kd.int .i64).M W base ok) (z := .int .i64 0) (size := 1) (z0 := (0 : Int)) rfl (by decide) (by exact rfl) n
    rw [Nat.mul_one] at this
    exact this
  refine ⟨fun k hk => ?_, (madeCells #[Value.int .i64 0] n).toList, ?_, ?_⟩
  · have : W.heap.size = k := by simpa [Value.ownBlock] using hk
    subst this
    exact hok
  · have h2 := World.ownsRow_lit (base := base) (e := 2) (size := 1) W (madeCells #[Value.int .i64 0] n) n hb (by simp [maxLen]; omega) (by simp [size_madeCells])
    rw [List.length_replicate]
    exact h2
  · exact hrep.imp_ (fun p c hp => hp)
theorem impl_PowerSum_num {l : List Int} (h : impl_areNumbers.f l = some true) : l.length ≤ 12 := by
  unfold impl_areNumbers.f at h
  by_cases hl : (l.length : Int) ≤ 12
  · omega
  · rw [if_neg hl] at h
    exact absurd h (by simp)
theorem impl_PowerSum_cells {A : Option Addr} {l : List Int} {w W : World} (hr : (Kd.int .i64).C w A l.length l) (hb : Below w.heap.size w W) : ∀ j, j < l.length → ∃ ad : Addr, A = some ad ∧ ad.block < w.heap.size ∧ ∃ h : j < l.length, W.cell? (ad.add j) = some (.int .i64 l[j]) := by
  intro j hj
  obtain ⟨ad, e, hc⟩ := Kd.at_int hr (j : Int) (by omega) (by omega)
  rw [Int.toNat_natCast] at hc
  have hlt := World.block_lt_of_cell? _ _ hc
  rw [impl_PowerSum_block] at hlt
  refine ⟨ad, e, hlt, hj, (pw_cell_below hb hc).trans ?_⟩
  rw [show rd l (j : Int) = l[j] from by simp [rd, hj]]
theorem impl_PowerSum_named {F : Fence} {n : Nat} {P : Program} {c : Code} {Q : Exit → Act → World → Prop} {a : Act} {w : World} (h : ∀ a0 W0, a0 = a → W0 = w → c.wpIn F n P Q a0 W0) : c.wpIn F n P Q a w := h a w rfl rfl
theorem impl_PowerSum_own_box {B0 : Nat} {W W' : World} {row : Option Nat} {B : Nat} {t : TypeId} {v : Value} (h : Boxed W B t v) (hg : W.grownBy W' row) (hr : ∀ r, row = some r → B0 ≤ r ∧ ∃ o : Obj, W.heap[r]? = some o ∧ o.isCells = false) : Boxed W' B t v := by
  refine h.kept hg (fun e => ?_)
  obtain ⟨_, o, ho, hc⟩ := hr B e.symm
  rw [show W.heap[B]? = _ from h] at ho
  cases ho
  cases hc
theorem impl_PowerSum_own_row {B0 : Nat} {W W' : World} {row : Option Nat} {base : Nat} {ok : Nat → Prop} {v : Value} {xs : List Int} (h : (Kd.int .i64).R 2 W base ok v xs) (hg : W.grownBy W' row) (hr : ∀ r, row = some r → B0 ≤ r ∧ ∃ o : Obj, W.heap[r]? = some o ∧ o.isCells = false) : (Kd.int .i64).R 2 W' base ok v xs := by
  refine Kd.R_mono (Kd.R_step (Kd.R_bound h) (fun k hk hlt => hg.block k hlt (fun e => ?_))) (fun k hk => hk.1)
  obtain ⟨_, o, ho, hc⟩ := hr k e.symm
  obtain ⟨_, _, _, q, _, cells, hcc⟩ := hk
  rw [hcc] at ho
  cases ho
  cases hc
/-- What stands between two rounds of the outer loop. -/
def impl_PowerSum_I (w : World) (A0 : Option Addr) (c0 : Nat) (l0 : List Int) (A1 : Option Addr) (c1 : Nat) (l1 : List Int) (b2 b6 bP : Nat) (pre : List (Fin l1.length)) (W : World) : Prop :=
  ((Boxed W b2 44 (.slice A0 l0.length c0) ∧ Boxed W (b2 + 1) 2 (.int .i64 0) ∧ Boxed W (b2 + 1 + 1) 2 (.int .i64 0) ∧ Boxed W bP 44 (.slice A1 l1.length c1)) ∧ ∃ (b : List Int) (Ab : Option Addr) (cb : Nat), impl_PowerSum_out l0 l1 pre = some b ∧ b.length = l0.length + 1 ∧ Boxed W b6 44 (.slice Ab (l0.length + 1) cb) ∧ (Kd.int .i64).R 2 W w.heap.size (fun k => b2 + 1 + 1 < k) (.slice Ab (l0.length + 1) cb) b) ∧ Below w.heap.size w W
def impl_PowerSum_Ix (w : World) (l0 : List Int) (l1 : List Int) (b2 : Nat) (c : Code) (pre : List (Fin l1.length)) (W : World) : Prop :=
  (c = .ret ∧ impl_PowerSum_out l0 l1 pre = none ∧ Boxed W (b2 + 1) 2 (.int .i64 0) ∧ Boxed W (b2 + 1 + 1) 2 (.int .i64 3)) ∧ Below w.heap.size w W
theorem impl_PowerSum_I_own {B0 : Nat} {w : World} {A0 : Option Addr} {c0 : Nat} {l0 : List Int} {A1 : Option Addr} {c1 : Nat} {l1 : List Int} {b2 b6 bP : Nat} (hB0 : w.heap.size ≤ B0) : OwnFrom B0 (impl_PowerSum_I w A0 c0 l0 A1 c1 l1 b2 b6 bP) := by
  refine OwnFrom.and ?_ (ownFrom_below (Nat.le_refl _) hB0)
  rintro pre X Y row ⟨⟨h1, h2, h3, h4⟩, b, Ab, cb, e1, e2, h5, h6⟩ hg hr
  exact ⟨⟨impl_PowerSum_own_box h1 hg hr, impl_PowerSum_own_box h2 hg hr, impl_PowerSum_own_box h3 hg hr, impl_PowerSum_own_box h4 hg hr⟩, b, Ab, cb, e1, e2, impl_PowerSum_own_box h5 hg hr, impl_PowerSum_own_row h6 hg hr⟩
theorem impl_PowerSum_Ix_own {B0 : Nat} {w : World} {l0 : List Int} {l1 : List Int} {b2 : Nat} (hB0 : w.heap.size ≤ B0) (c : Code) : OwnFrom B0 (impl_PowerSum_Ix w l0 l1 b2 c) := by
  refine OwnFrom.and ?_ (ownFrom_below (Nat.le_refl _) hB0)
  rintro pre X Y row ⟨e0, e1, h1, h2⟩ hg hr
  exact ⟨e0, e1, impl_PowerSum_own_box h1 hg hr, impl_PowerSum_own_box h2 hg hr⟩
theorem impl_PowerSum_round1 {F : Fence} {l n : Nat} {P : Program} {md : Region.Mode} {ops : Array Oper} {Q : Exit → Act → World → Prop} (hro : F.round = none) (hd : ∀ (i : Nat) (o : Oper), ops[i]? = some o → ∀ c, o.op ≠ .defer c) : ∀ (fuel : Nat) (listed : Array Bool) (a : Act) (w : World), wpAnyIn F n P md ops Q fuel listed a w → wpAnyIn (F.inRound l) n P md ops Q fuel listed a w
  | 0, _, _, _, h => h
  | fuel + 1, listed, a, w, h => by
    refine ⟨h.1, fun i hi => ?_⟩
    have h2 := h.2 i hi
    have h3 := wpOpIn_mono (fun a' w' hh => impl_PowerSum_round1 (l := l) hro hd fuel (listed.setIfInBounds i true) a' w' hh) h2
    unfold wpOpIn at h3 ⊢
    cases ho : ops[i]? with
    | none => rw [ho] at h3; exact h3
    | some o =>
      rw [ho] at h3
      simp only at h3 ⊢
      split
      · rename_i hw
        rw [if_pos hw] at h3
        refine ⟨h3.1, ?_⟩
        rw [Oper.semAt_eq _ _ _ (hd i o ho)]
        have h4 := h3.2
        rw [Oper.semAt_eq _ _ _ (hd i o ho)] at h4
        exact h4
      · rename_i hw
        rw [if_neg hw] at h3
        exact h3
theorem impl_PowerSum_nod {ops : Array Oper} (h : (ops.toList.all fun o => match o.op with | .defer _ => false | _ => true) = true) : ∀ (i : Nat) (o : Oper), ops[i]? = some o → ∀ c, o.op ≠ .defer c := by
  intro i o ho c e
  have hm : o ∈ ops.toList := by
    obtain ⟨hi, rfl⟩ := Array.getElem?_eq_some_iff.1 ho
    simp
  have := List.all_eq_true.1 h o hm
  rw [e] at this
  simp at this
theorem impl_PowerSum_w1 (k : Nat) (h : k ≤ 12) : wrap64 ((k : Int) + 1) = (k : Int) + 1 := by simp only [wrap64]; omega
theorem impl_PowerSum_w2 (k : Nat) (h : k ≤ 12) : IntKind.i64.wrap ((k : Int) + 1) = (k : Int) + 1 := by simp only [IntKind.wrap_i64]; omega
theorem impl_PowerSum_rdset {f : List Int} {i : Nat} (v : Int) (h : i < f.length) : rdOf 0 (f.set i v) (i : Int) = v := by simp [rdOf, List.getD_eq_getElem?_getD, h]
theorem impl_PowerSum_tdiv {s : Int} (h : 0 < s) : IntKind.i64.wrap (Int.tdiv 1000000000000000 s) = 1000000000000000 / s := by
  rw [Int.tdiv_eq_ediv_of_nonneg (by decide)]
  have h1 : 0 ≤ 1000000000000000 / s := Int.ediv_nonneg (by decide) (by omega)
  have h2 : 1000000000000000 / s ≤ 1000000000000000 := Int.ediv_le_self _ (by decide)
  simp only [IntKind.wrap_i64]
  omega
theorem impl_PowerSum_w3 (k : Nat) : ((k : Int) + 1).toNat = k + 1 := by omega
theorem impl_PowerSum_key {P G : Prop} (h : Aside0 G → P) (g : G) : P := h ⟨g⟩
theorem impl_PowerSum_kf {B : Nat} {W X : World} (h : Below W.heap.size W X) : KeepsFrom B W X := (show KeepsOthers W X from ⟨h.size, fun k _ hk _ => (h.block k (Array.getElem?_eq_some_iff.1 hk).1).trans hk⟩).from _
/-- What stands between two rounds of the inner loop. -/
def impl_PowerSum_I2 (w V : World) (A0 : Option Addr) (c0 : Nat) (l0 : List Int) (A1 : Option Addr) (c1 : Nat) (l1 : List Int) (b2 b6 bP Bx B0 : Nat) (p : Int) (Ab : Option Addr) (cb : Nat) (b : List Int) (pre : List (Fin l0.length)) (W : World) : Prop :=
  (((Boxed W b2 44 (.slice A0 l0.length c0) ∧ Boxed W (b2 + 1) 2 (.int .i64 0) ∧ Boxed W (b2 + 1 + 1) 2 (.int .i64 0) ∧ Boxed W bP 44 (.slice A1 l1.length c1)) ∧ (Boxed W b6 44 (.slice Ab (l0.length + 1) cb) ∧ Boxed W Bx 2 (.int .i64 p) ∧ Boxed W (V.heap.size + 1) 44 (.slice (some ⟨V.heap.size, 0, none⟩) (l0.length + 1) (l0.length + 1))) ∧ (Kd.int .i64).R 2 W w.heap.size (fun k => b2 + 1 + 1 < k ∧ k < V.heap.size) (.slice Ab (l0.length + 1) cb) b ∧ ∃ f, impl_PowerSum_row l0 b p.toNat pre = some f ∧ f.length = l0.length + 1 ∧ (Kd.int .i64).R 2 W w.heap.size (fun k => k = V.heap.size) (.slice (some ⟨V.heap.size, 0, none⟩) (l0.length + 1) (l0.length + 1)) f)) ∧ (Below w.heap.size V W ∧ KeepsFrom B0 V W)
def impl_PowerSum_Ix2 (w V : World) (l0 : List Int) (b2 B0 : Nat) (p : Int) (b : List Int) (c : Code) (pre : List (Fin l0.length)) (W : World) : Prop :=
  (c = .ret ∧ impl_PowerSum_row l0 b p.toNat pre = none ∧ Boxed W (b2 + 1) 2 (.int .i64 0) ∧ Boxed W (b2 + 1 + 1) 2 (.int .i64 3)) ∧ (Below w.heap.size V W ∧ KeepsFrom B0 V W)
theorem impl_PowerSum_I2_own {w V : World} {A0 : Option Addr} {c0 : Nat} {l0 : List Int} {A1 : Option Addr} {c1 : Nat} {l1 : List Int} {b2 b6 bP Bx B0 : Nat} {p : Int} {Ab : Option Addr} {cb : Nat} {b : List Int} {B1 : Nat} (hw : w.heap.size ≤ V.heap.size) (hB0 : V.heap.size ≤ B1) : OwnFrom B1 (impl_PowerSum_I2 w V A0 c0 l0 A1 c1 l1 b2 b6 bP Bx B0 p Ab cb b) := by
  refine OwnFrom.and ?_ (OwnFrom.and (ownFrom_below hw (by omega)) (ownFrom_keepsFrom hB0))
  rintro pre X Y row ⟨⟨h1, h2, h3, h4⟩, ⟨h5, h6, h7⟩, h8, f, e1, e2, h9⟩ hg hr
  exact ⟨⟨impl_PowerSum_own_box h1 hg hr, impl_PowerSum_own_box h2 hg hr, impl_PowerSum_own_box h3 hg hr, impl_PowerSum_own_box h4 hg hr⟩, ⟨impl_PowerSum_own_box h5 hg hr, impl_PowerSum_own_box h6 hg hr, impl_PowerSum_own_box h7 hg hr⟩, impl_PowerSum_own_row h8 hg hr, f, e1, e2, impl_PowerSum_own_row h9 hg hr⟩
theorem impl_PowerSum_Ix2_own {w V : World} {l0 : List Int} {b2 B0 : Nat} {p : Int} {b : List Int} {B1 : Nat} (hw : w.heap.size ≤ V.heap.size) (hB0 : V.heap.size ≤ B1) (c : Code) : OwnFrom B1 (impl_PowerSum_Ix2 w V l0 b2 B0 p b c) := by
  refine OwnFrom.and ?_ (OwnFrom.and (ownFrom_below hw (by omega)) (ownFrom_keepsFrom hB0))
  rintro pre X Y row ⟨e0, e1, h1, h2⟩ hg hr
  exact ⟨e0, e1, impl_PowerSum_own_box h1 hg hr, impl_PowerSum_own_box h2 hg hr⟩
theorem impl_PowerSum_keep_of {n₀ B : Nat} {W X : World} {v0 : Value} (h : Boxed W B 44 v0) (h' : Boxed X B 44 v0) (hb : Below n₀ W X) : impl_PowerSum_keep n₀ B W X := by
  refine ⟨hb, fun v hv => ?_⟩
  have e : some (Obj.cells #[v0] 44) = some (Obj.cells #[v] 44) := (show W.heap[B]? = _ from h).symm.trans hv
  have e2 : v0 = v := by simpa using e
  exact e2 ▸ h'
section
open Go.Shelf
attribute [local go_sem] Oper.semAt_some
set_option maxHeartbeats 16000000 in
set_option maxRecDepth 100000 in
theorem impl_PowerSum_yes (A0 : Option Addr) (c0 : Nat) (l0 : List Int) (A1 : Option Addr) (c1 : Nat) (l1 : List Int) (r1 r2 : Int) (w : World) (hr0 : Kd.C (Kd.int .i64) w A0 l0.length l0) (hc0 : l0.length ≤ c0) (hr1 : Kd.C (Kd.int .i64) w A1 l1.length l1) (h : impl_areNumbers.f l0 = some true) (hp : impl_PowerSum_isParts l1 6 = true) (hres : impl_PowerSum_res l0 l1 = (r1, r2)) :
    Calls Try.prog 39 #[.slice A0 l0.length c0, .slice A1 l1.length c1] w fun e w' => e = .returned (.tuple #[.int .i64 r1, .int .i64 r2]) ∧ Below w.heap.size w w' := by
  have HR := Aside0.mk hr0
  have HC := Aside0.mk hc0
  have HN := Aside0.mk h
  have HR1 := Aside0.mk hr1
  have HP := Aside0.mk hp
  have hn := impl_PowerSum_num h
  clear hr0 hc0 h hr1 hp
  have B2 := Aside0.mk (((Boxed.new w 44 (.slice A0 l0.length c0)).alloc (.cells #[.int .i64 0] 2)).alloc (.cells #[.int .i64 0] 2))
  have B4 := Aside0.mk ((Boxed.new (w.alloc (.cells #[.slice A0 l0.length c0] 44)) 2 (.int .i64 0)).alloc (.cells #[.int .i64 0] 2))
  have B5 := Aside0.mk (Boxed.new ((w.alloc (.cells #[.slice A0 l0.length c0] 44)).alloc (.cells #[.int .i64 0] 2)) 2 (.int .i64 0))
  have HB := Aside0.mk (show Below w.heap.size w (((w.alloc (.cells #[.slice A0 l0.length c0] 44)).alloc (.cells #[.int .i64 0] 2)).alloc (.cells #[.int .i64 0] 2)) from by repeat (first | exact Below.refl _ _ | apply below_alloc))
  simp only [World.size_alloc] at B4 B5
  refine (callsIn_wide (n := 9)).1 ?_
  refine callsIn_of_wp_marks Try.func39 rfl trivial ?_ rfl
  simp only [Try.ntmps39, List.size_toArray, List.length_cons, List.length_nil, Nat.reduceAdd, Nat.reduceSub, Array.replicate_succ, Array.replicate_zero, List.push_toArray, List.append_toArray, List.nil_append, List.cons_append]
  gi_wp2_with fail
  refine ⟨trivial, (callsIn_wide.2 (impl_areNumbers.calls A0 c0 l0 true _ (by repeat (first | exact HR.out | refine Kd.C_alloc ?_ _)) HC.out HN.out)).mono ?_⟩
  rintro e w1 ⟨rfl, hb⟩
  replace B2 := Aside0.mk (impl_PowerSum_boxed_below B2.out hb)
  replace B4 := Aside0.mk (impl_PowerSum_boxed_below B4.out hb)
  replace B5 := Aside0.mk (impl_PowerSum_boxed_below B5.out hb)
  replace HB := Aside0.mk (below_step HB.out hb)
  clear hb
  gi_wp2_with fail
  refine ⟨trivial, (callsIn_wide.2 (impl_PowerSum_parts A1 c1 l1 6 _ (Kd.C_below HR1.out HB.out))).mono ?_⟩
  rw [HP.out]
  rintro e w2 ⟨rfl, q, rfl⟩
  have x2 := ((B2.out.alloc (.cells #[.int .i64 1] 2)).cell : World.cell? (w1.alloc (.cells #[.int .i64 1] 2)) _ = _)
  have x2' : ((w1.drewN q).alloc (.cells #[.int .i64 1] 2)).cell? ⟨w.heap.size, 0, none⟩ = some (.slice A0 l0.length c0) := x2
  gi_wp2_with fail
  refine ⟨trivial, (callsIn_wide.2 (show Calls _ _ #[_, .int .i64 ((l0.length : Int) + 1)] _ _ from impl_PowerSum_repeat (l0.length + 1) (by omega) (by omega) ⟨w1.heap.size, 0, none⟩ 1 ((w1.drewN q).alloc (.cells #[.int .i64 1] 2)) (Boxed.new (w1.drewN q) 2 (.int .i64 1)).cell)).mono ?_⟩
  rintro e w3 ⟨v, rfl, hv, hb⟩
  have b5lt := B5.out.lt
  replace B2 := Aside0.mk (impl_PowerSum_boxed_below (Boxed.alloc (W := w1.drewN q) B2.out (.cells #[.int .i64 1] 2)) hb)
  replace B4 := Aside0.mk (impl_PowerSum_boxed_below (Boxed.alloc (W := w1.drewN q) B4.out (.cells #[.int .i64 1] 2)) hb)
  replace B5 := Aside0.mk (impl_PowerSum_boxed_below (Boxed.alloc (W := w1.drewN q) B5.out (.cells #[.int .i64 1] 2)) hb)
  have HB3 := Aside0.mk (below_step (below_alloc (pw_below_drewN HB.out q) (.cells #[.int .i64 1] 2)) hb)
  have HV := Aside0.mk (show (Kd.int .i64).R 2 w3 w.heap.size (fun k => w.heap.size + 1 + 1 < k) v (List.replicate (l0.length + 1) 1) from Kd.R_lower (Kd.R_mono (Kd.R_bound hv) (fun k hk => by have h1 := hk.2.1; have h2 := b5lt; rw [World.size_alloc] at h1; have h3 : (w1.drewN q).heap.size = w1.heap.size := rfl; omega)) (below_size (below_alloc (pw_below_drewN HB.out q) (.cells #[.int .i64 1] 2))))
  clear hb hv x2 x2' HB
  obtain ⟨Av, cv, ev⟩ := Kd.R_slice HV.out
  subst ev
  rw [List.length_replicate]
  gi_wp2_with fail
  refine ⟨trivial, (impl_PowerSum_back Fence.wide 8 trivial rfl A1 l1.length c1 _).mono ?_⟩
  rintro e w' ⟨rfl, rfl⟩
  gi_wp2
  have C6 := (Boxed.new w3 44 (.slice Av (l0.length + 1) cv)).alloc (.cells #[.slice A1 l1.length c1] 44)
  have CP := Boxed.new (w3.alloc (.cells #[.slice Av (l0.length + 1) cv] 44)) 44 (.slice A1 l1.length c1)
  have C2 := (B2.out.alloc (.cells #[.slice Av (l0.length + 1) cv] 44)).alloc (.cells #[.slice A1 l1.length c1] 44)
  have C4 := (B4.out.alloc (.cells #[.slice Av (l0.length + 1) cv] 44)).alloc (.cells #[.slice A1 l1.length c1] 44)
  have C5 := (B5.out.alloc (.cells #[.slice Av (l0.length + 1) cv] 44)).alloc (.cells #[.slice A1 l1.length c1] 44)
  have CV := Kd.R_alloc (Kd.R_alloc HV.out (.cells #[.slice Av (l0.length + 1) cv] 44)) (.cells #[.slice A1 l1.length c1] 44)
  have CB := below_alloc (below_alloc HB3.out (.cells #[.slice Av (l0.length + 1) cv] 44)) (.cells #[.slice A1 l1.length c1] 44)
  rw [World.size_alloc] at CP
  simp only [List.length_replicate] at CV
  have h5 := B5.out.lt
  have hsz : ((w3.alloc (.cells #[.slice Av (l0.length + 1) cv] 44)).alloc (.cells #[.slice A1 l1.length c1] 44)).heap.size = w3.heap.size + 1 + 1 := by simp
  refine impl_PowerSum_named ?_
  intro a0 W0 ha0 hW0
  rw [← hW0] at C6 CP C2 C4 C5 CV CB hsz
  clear hW0
  have hm : l1.length ≤ 6 := by
    have := HP.out
    unfold impl_PowerSum_isParts at this
    simp only [Bool.and_eq_true, decide_eq_true_eq] at this
    exact this.1
  refine wpIn_rangeFunc_ownH rfl (by omega) (gf := 111) (lb := #[.pointer (some ⟨w3.heap.size + 1, 0, none⟩)]) (by rw [ha0]; rfl) trivial (enters_of Try.func111 (by kernel_rfl) rfl)
    (impl_PowerSum_stops Fence.wide 8 trivial rfl (by omega) (w3.heap.size + 1) w.heap.size c1 A1 l1 (by omega) W0 CB.size CP (impl_PowerSum_cells HR1.out CB)) impl_PowerSum_keep_t (impl_PowerSum_keep_b CB.size (by omega)) (Below.refl _ _) (fun _ => rfl)
    (impl_PowerSum_I w A0 c0 l0 A1 c1 l1 w.heap.size w3.heap.size (w3.heap.size + 1)) (impl_PowerSum_Ix w l0 l1 w.heap.size) (impl_PowerSum_I_own CB.size) (impl_PowerSum_Ix_own CB.size)
    ⟨⟨⟨C2, C4, C5, CP⟩, List.replicate (l0.length + 1) 1, Av, cv, rfl, by simp, C6, CV⟩, CB⟩
    (fun x a' W => ∃ Bx, w3.heap.size + 1 < Bx ∧ Boxed W Bx 2 (.int .i64 l1[x.1]) ∧ a' = { tmps := ((a0.tmps.setIfInBounds 29 (.int .i64 (x.1 : Int))).setIfInBounds 30 (.int .i64 l1[x.1])).setIfInBounds 8 (.pointer (some ⟨Bx, 0, none⟩)), defers := [] })
    (fun x a' _ X Y row hs hg hr => by obtain ⟨Bx, h1, h2, h3⟩ := hs; exact ⟨Bx, h1, impl_PowerSum_own_box h2 hg hr, h3⟩)
    ?assign ?body ?done ?stop
  case assign =>
    rintro l pre x W K hi hK
    have hB1 := hi.2
    have hP := hi.1.1.2.2.2.lt
    subst ha0
    gi_wp2
    refine hK _ _ ((KeepsOthers.alloc _ _).from _) ⟨(Below.refl _ W).alloc hB1.size _, fun v hv => hv.alloc _⟩ ((impl_PowerSum_I_own CB.size).alloc _ hi) ⟨W.heap.size, hP, Boxed.new W 2 _, rfl⟩
  case body =>
    rintro l pre x a' W hl ⟨rc, hrc⟩ ⟨⟨⟨d2, d4, d5, dP⟩, b, Ab, cb, e1, e2, d6, dV⟩, hB1⟩ ⟨Bx, hBx, bX, rfl⟩ hlt
    subst ha0
    have x2 := d2.cell
    have hmk := run_make_row' (P := Try.prog) 44 2 (.int .i64 0) 8 Try.underlying44 info2 rfl .i64 .i64 (l0.length + 1) (by omega) (by omega) W
    rw [show (((l0.length + 1 : Nat) : Int)) = (l0.length : Int) + 1 from by omega] at hmk
    have hsW := hB1.size
    have D2 := Aside0.mk (d2.alloc (.cells (madeCells #[.int .i64 0] (l0.length + 1)) 2))
    have D4 := Aside0.mk (d4.alloc (.cells (madeCells #[.int .i64 0] (l0.length + 1)) 2))
    have D5 := Aside0.mk (d5.alloc (.cells (madeCells #[.int .i64 0] (l0.length + 1)) 2))
    have DP := Aside0.mk (dP.alloc (.cells (madeCells #[.int .i64 0] (l0.length + 1)) 2))
    have D6 := Aside0.mk (d6.alloc (.cells (madeCells #[.int .i64 0] (l0.length + 1)) 2))
    have BX := Aside0.mk (bX.alloc (.cells (madeCells #[.int .i64 0] (l0.length + 1)) 2))
    have hbl := d5.lt
    have E1 := Aside0.mk e1
    have E2 := Aside0.mk e2
    have HF := Aside0.mk (impl_PowerSum_made (l0.length + 1) (by omega) W w.heap.size (by omega) (fun k => k = W.heap.size) rfl)
    have DV := Aside0.mk (Kd.R_alloc (Kd.R_mono (Kd.R_bound dV) (ok' := fun k => w.heap.size + 1 + 1 < k ∧ k < W.heap.size) (fun k hk => ⟨hk.1, hk.2.2.1⟩)) (.cells (madeCells #[.int .i64 0] (l0.length + 1)) 2))
    have HB1 := Aside0.mk (below_alloc hB1 (.cells (madeCells #[.int .i64 0] (l0.length + 1)) 2))
    have HBX := Aside0.mk hBx
    have DPl := Aside0.mk dP.lt
    have HNE := Aside0.mk (show w.heap.size ≠ W.heap.size ∧ w.heap.size + 1 ≠ W.heap.size ∧ w.heap.size + 1 + 1 ≠ W.heap.size ∧ w3.heap.size + 1 ≠ W.heap.size ∧ w3.heap.size ≠ W.heap.size ∧ Bx ≠ W.heap.size ∧ W.heap.size + 1 ≠ W.heap.size from (fun (h1 : w.heap.size + 1 + 1 < W.heap.size) (h2 : w3.heap.size + 1 < W.heap.size) (h3 : Bx < W.heap.size) => by omega) d5.lt dP.lt bX.lt)
    have DPW := Aside0.mk dP
    have HB0 := Aside0.mk hB1
    have hpr : 1 ≤ l1[x.1] ∧ l1[x.1] ≤ 5 := by
      have h := HP.out
      unfold impl_PowerSum_isParts at h
      simp only [Bool.and_eq_true, Bool.not_eq_true', List.any_eq_false] at h
      have h2 := h.2 l1[x.1] (List.getElem_mem _)
      simp at h2
      omega
    clear d2 d4 d5 dP d6 bX e1 e2 dV hB1 hBx
    have x2' := (D2.out.alloc (.cells #[.slice (some ⟨W.heap.size, 0, none⟩) (l0.length + 1) (l0.length + 1)] 44)).cell
    simp only [List.setIfInBounds_toArray, List.set_cons_zero, List.set_cons_succ]
    gi_wp2_with fail
    refine ⟨trivial, (CallsIn.inRound l (impl_PowerSum_back Fence.wide 6 trivial rfl A0 l0.length c0 _)).mono ?_⟩
    rintro e w' ⟨rfl, rfl⟩
    gi_wp2_with fail
    refine impl_PowerSum_named ?_
    intro a1 W2 ha1 hW2
    have hBW : Below W.heap.size W W2 := by rw [hW2]; exact below_alloc (below_alloc (below_alloc (Below.refl _ _) _) _) _
    have hs2 : W2.heap.size = W.heap.size + 1 + 1 + 1 := by rw [hW2]; simp
    have T2 := Aside0.mk (show Boxed W2 w.heap.size 44 (.slice A0 l0.length c0) by rw [hW2]; exact (D2.out.alloc _).alloc _)
    have T4 := Aside0.mk (show Boxed W2 (w.heap.size + 1) 2 (.int .i64 0) by rw [hW2]; exact (D4.out.alloc _).alloc _)
    have T5 := Aside0.mk (show Boxed W2 (w.heap.size + 1 + 1) 2 (.int .i64 0) by rw [hW2]; exact (D5.out.alloc _).alloc _)
    have TP := Aside0.mk (show Boxed W2 (w3.heap.size + 1) 44 (.slice A1 l1.length c1) by rw [hW2]; exact (DP.out.alloc _).alloc _)
    have T6 := Aside0.mk (show Boxed W2 w3.heap.size 44 (.slice Ab (l0.length + 1) cb) by rw [hW2]; exact (D6.out.alloc _).alloc _)
    have TX := Aside0.mk (show Boxed W2 Bx 2 (.int .i64 l1[x.1]) by rw [hW2]; exact (BX.out.alloc _).alloc _)
    have TF := Aside0.mk (show Boxed W2 (W.heap.size + 1) 44 (.slice (some ⟨W.heap.size, 0, none⟩) (l0.length + 1) (l0.length + 1)) by rw [hW2]; have h := (Boxed.new (W.alloc (.cells (madeCells #[.int .i64 0] (l0.length + 1)) 2)) 44 (.slice (some ⟨W.heap.size, 0, none⟩) (l0.length + 1) (l0.length + 1))).alloc (.cells #[.slice A0 l0.length c0] 44); rw [World.size_alloc] at h; exact h)
    have TL : Boxed W2 (W.heap.size + 1 + 1) 44 (.slice A0 l0.length c0) := by
      rw [hW2]
      have h := Boxed.new ((W.alloc (.cells (madeCells #[.int .i64 0] (l0.length + 1)) 2)).alloc (.cells #[.slice (some ⟨W.heap.size, 0, none⟩) (l0.length + 1) (l0.length + 1)] 44)) 44 (.slice A0 l0.length c0)
      rw [World.size_alloc, World.size_alloc] at h
      exact h
    have TV := Aside0.mk (show (Kd.int .i64).R 2 W2 w.heap.size (fun k => w.heap.size + 1 + 1 < k ∧ k < W.heap.size) (.slice Ab (l0.length + 1) cb) b by rw [hW2]; exact Kd.R_alloc (Kd.R_alloc DV.out _) _)
    have TR := Aside0.mk (show (Kd.int .i64).R 2 W2 w.heap.size (fun k => k = W.heap.size) (.slice (some ⟨W.heap.size, 0, none⟩) (l0.length + 1) (l0.length + 1)) (List.replicate (l0.length + 1) 0) by rw [hW2]; exact Kd.R_alloc (Kd.R_alloc HF.out _) _)
    have TB : Below w.heap.size w W2 := by rw [hW2]; exact below_alloc (below_alloc HB1.out _) _
    have hr' : W2.heap[l]? = some (.loop rc) := (hBW.block l (Array.getElem?_eq_some_iff.1 hrc).1).trans hrc
    clear hW2 D2 D4 D5 D6 BX DV HF hmk x2 x2'
    refine wpIn_rangeFunc_ownN (l₀ := l) (r₀ := rc) rfl hr' (by omega) (gf := 111) (lb := #[.pointer (some ⟨W.heap.size + 1 + 1, 0, none⟩)]) (by rw [ha1]; rfl) trivial (enters_of Try.func111 (by kernel_rfl) rfl)
      ((impl_PowerSum_stops Fence.wide 6 trivial rfl (by omega) (W.heap.size + 1 + 1) w.heap.size c0 A0 l0 (by omega) W2 TB.size TL (impl_PowerSum_cells HR.out TB)).inRound l) impl_PowerSum_keep_t (impl_PowerSum_keep_b TB.size (by omega)) (Below.refl _ _) (fun _ => rfl)
      (impl_PowerSum_I2 w W A0 c0 l0 A1 c1 l1 w.heap.size w3.heap.size (w3.heap.size + 1) Bx W0.heap.size l1[x.1] Ab cb b) (impl_PowerSum_Ix2 w W l0 w.heap.size W0.heap.size l1[x.1] b) (impl_PowerSum_I2_own hsW hBW.size) (impl_PowerSum_Ix2_own hsW hBW.size)
      ⟨⟨⟨T2.out, T4.out, T5.out, TP.out⟩, ⟨T6.out, TX.out, TF.out⟩, TV.out, _, rfl, by simp, TR.out⟩, hBW.mono hsW, impl_PowerSum_kf hBW⟩
      (fun y a'' _ => a'' = { tmps := (((a1.tmps.setIfInBounds 37 (.int .i64 (y.1 : Int))).setIfInBounds 38 (.int .i64 l0[y.1])).setIfInBounds 10 (.int .i64 (y.1 : Int))).setIfInBounds 11 (.int .i64 l0[y.1]), defers := [] })
      (fun _ _ _ _ _ _ hs _ _ => hs)
      ?assign2 ?body2 ?done2 ?stop2
    case assign2 =>
      rintro l2 pre2 y X K hi hK
      subst ha1
      gi_wp2
      exact hK _ _ (KeepsFrom.refl _ _) (impl_PowerSum_keep_refl _ _ _) hi rfl
    case body2 =>
      rintro l2 pre2 y a'' X _ _ ⟨⟨⟨g2, g4, g5, gP⟩, ⟨g6, gX, gF⟩, gV, f, k1, k2, gR⟩, hBX, hKX⟩ rfl hlt2
      subst ha1
      have hyl := y.2
      have yX := gX.cell
      have G6 := Aside0.mk g6
      have G4 := Aside0.mk g4
      have G5 := Aside0.mk g5
      have GF := Aside0.mk gF
      have G2 := Aside0.mk g2
      have GP := Aside0.mk gP
      have GX := Aside0.mk gX
      have GV := Aside0.mk gV
      have GR := Aside0.mk gR
      have K1 := Aside0.mk k1
      have K2 := Aside0.mk k2
      have HBX := Aside0.mk hBX
      have HKX := Aside0.mk hKX
      clear g2 g4 g5 gP g6 gX gF gV gR k1 k2 hBX hKX
      simp only [List.setIfInBounds_toArray, List.set_cons_zero, List.set_cons_succ]
      gi_wp2_with fail
      generalize hxv : l0[y.1] = xv
      have HXV := Aside0.mk hxv
      clear hxv
      gi_loopw [12, 40] (fun t12 t40 wr => ∃ k : Nat, (k : Int) ≤ l1[x.1] ∧ t12 = .int .i64 (impl_PowerSum_pwr xv k) ∧ t40 = .int .i64 (k : Int) ∧ wr = X) (fun _ t40 _ => (5 - intOf t40).toNat)
      case atStart => exact ⟨0, by omega, rfl, rfl, rfl⟩
      case round =>
        obtain ⟨k, hk, rfl, rfl, rfl⟩ := hrel
        by_cases hlt : (k : Int) < l1[x.1]
        · gi_wp2
          go_roundw
          case rel => exact ⟨k + 1, by omega, rfl, by congr 1, trivial⟩
          case measure => simp [intOf]; omega
        · have hkp : l1[x.1].toNat = k := by omega
          have HKP := Aside0.mk hkp
          clear hkp
          have y6 := G6.out.cell
          obtain ⟨gb, capb, evb, hgb, hgl, hcc⟩ := Kd.R_form GV.out (by rw [E2.out]; omega)
          injection evb with evb1 evb2 evb3
          subst evb1 evb3
          obtain ⟨y0, f0⟩ := Kd.R_celln 0 GV.out ((y.1 : Int) + 1) (by omega) (by omega)
          rw [show ((y.1 : Int) + 1).toNat = y.1 + 1 from by omega] at y0 f0
          generalize hbv : rdOf 0 b ((y.1 : Int) + 1) = bv at y0
          have HBV := Aside0.mk hbv
          clear evb2 hcc hbv
          have h1i : (1 : Nat) ≤ 5 := by omega
          gi_wp2_with fail
          refine ⟨trivial, (CallsIn.inRound l2 (CallsIn.inRound l (callsIn_wide.2 (impl_PowerSum_size bv _)))).mono ?_⟩
          rintro e w' ⟨rfl, rfl⟩
          have hmix : Try.prog.follows .mixedOrders = true := by kernel_rfl
          have y4 := G4.out.cell
          have z4 := G4.out.frozen
          have y5 := G5.out.cell
          have z5 := G5.out.frozen
          have y9 := GF.out.cell
          obtain ⟨yf1, ff1⟩ := Kd.R_celln 0 GR.out ((y.1 : Int) + 1) (by omega) (by omega)
          obtain ⟨yf0, ff0⟩ := Kd.R_celln 0 GR.out (y.1 : Int) (by omega) (by omega)
          rw [show ((y.1 : Int) + 1).toNat = y.1 + 1 from by omega] at yf1
          rw [Int.toNat_natCast] at yf0 ff0
          generalize hfv : rdOf 0 f ((y.1 : Int) + 1) = fv at yf1
          have HFV := Aside0.mk hfv
          clear hfv
          generalize hfo : rdOf 0 f (y.1 : Int) = fo at yf0
          clear hfo
          have q1 : (0 ≤ (y.1 : Int)) = True := eq_true (by omega)
          have q2 : (0 ≤ (y.1 : Int) + 1) = True := eq_true (by omega)
          have q3 : ((y.1 : Int) < (l0.length : Int)) = True := eq_true (by omega)
          have q4 : (y.1 < l0.length) = True := eq_true (by omega)
          have q5 : ((y.1 : Int) < (l0.length : Int) + 1) = True := eq_true (by omega)
          have q6 : (y.1 < l0.length + 1) = True := eq_true (by omega)
          have q7 : ((y.1 : Int) + 1 < (l0.length : Int) + 1) = True := eq_true (by omega)
          have q8 : ((y.1 : Int) + 1 ≤ (l0.length : Int)) = True := eq_true (by omega)
          have hw1 := impl_PowerSum_w1 y.1 (Nat.le_of_lt (Nat.lt_of_lt_of_le hyl hn))
          have hw2 := impl_PowerSum_w2 y.1 (Nat.le_of_lt (Nat.lt_of_lt_of_le hyl hn))
          have hn1 := impl_PowerSum_w3 y.1
          clear ff1
          gi_wp2_with fail
          rename_i KA m4 m5 m6 m7 hKA KB hKB
          refine impl_PowerSum_named ?_
          intro a2 W3 ha2 hW3
          have hcont : impl_PowerSum_bad (impl_PowerSum_pwr xv k) bv = false → ∀ t52 t53 t54 t55 t56 t57 t58 t59 t60, KA { tmps := ((((((((a2.tmps.setIfInBounds 52 t52).setIfInBounds 53 t53).setIfInBounds 54 t54).setIfInBounds 55 t55).setIfInBounds 56 t56).setIfInBounds 57 t57).setIfInBounds 58 t58).setIfInBounds 59 t59).setIfInBounds 60 t60, defers := [] } W3.drew := by
            intro hbad t52 t53 t54 t55 t56 t57 t58 t59 t60
            have HBAD := Aside0.mk hbad
            clear hbad
            rw [hW3]
            subst ha2
            simp only [List.setIfInBounds_toArray, List.set_cons_zero, List.set_cons_succ]
            refine hKA _ _ ?_
            gi_wp2_with fail
            refine wpIn_region_any hmix ?_
            change wpAnyIn _ _ _ _ _ _ _ _ _ (World.drew _)
            refine impl_PowerSum_round1 (l := l2) (F := Fence.wide) rfl (impl_PowerSum_nod (by kernel_rfl)) _ _ _ _ ?_
            apply impl_PowerSum_key
            case h =>
              intro kfin
              apply impl_PowerSum_key
              case h =>
               intro k122
               apply impl_PowerSum_key
               case h =>
                intro k121
                apply impl_PowerSum_key
                case h =>
                 intro k112
                 apply impl_PowerSum_key
                 case h =>
                  intro k022
                  apply impl_PowerSum_key
                  case h =>
                   intro k120
                   apply impl_PowerSum_key
                   case h =>
                    intro k111
                    apply impl_PowerSum_key
                    case h =>
                     intro k102
                     apply impl_PowerSum_key
                     case h =>
                      intro k021
                      apply impl_PowerSum_key
                      case h =>
                       intro k012
                       apply impl_PowerSum_key
                       case h =>
                        intro k110
                        apply impl_PowerSum_key
                        case h =>
                         intro k101
                         apply impl_PowerSum_key
                         case h =>
                          intro k020
                          apply impl_PowerSum_key
                          case h =>
                           intro k011
                           apply impl_PowerSum_key
                           case h =>
                            intro k002
                            apply impl_PowerSum_key
                            case h =>
                             intro k100
                             apply impl_PowerSum_key
                             case h =>
                              intro k010
                              apply impl_PowerSum_key
                              case h =>
                               intro k001
                               refine wpAnyIn_take (i := 1) (v := ?_) rfl rfl (by kernel_rfl) (by kernel_rfl) (by kernel_rfl) (fun _ _ _ h => h) ⟨Or.inl ⟨by rfl, ?_⟩, fun _ => rfl⟩ ?_; rotate_left; · (intro w; go_simp; try with_reducible rfl)
                               refine wpAnyIn_take (i := 2) (v := ?_) rfl rfl (by kernel_rfl) (by kernel_rfl) (by kernel_rfl) (fun _ _ _ h => h) ⟨Or.inl ⟨by rfl, ?_⟩, fun _ => rfl⟩ ?_; rotate_left; · (intro w; go_simp; try with_reducible rfl)
                               refine wpAnyIn_take (i := 4) (v := ?_) rfl rfl (by kernel_rfl) (by kernel_rfl) (by kernel_rfl) (fun _ _ _ h => h) ⟨Or.inl ⟨by rfl, ?_⟩, fun _ => rfl⟩ ?_; rotate_left; · (intro w; go_simp; try with_reducible rfl)
                               refine wpAnyIn_take (i := 5) (v := ?_) rfl rfl (by kernel_rfl) (by kernel_rfl) (by kernel_rfl) (fun _ _ _ h => h) ⟨Or.inl ⟨by rfl, ?_⟩, fun _ => rfl⟩ ?_; rotate_left; · (intro w; go_simp; try with_reducible rfl)
                               refine wpAnyIn_take (i := 10) (v := ?_) rfl rfl (by kernel_rfl) (by kernel_rfl) (by kernel_rfl) (fun _ _ _ h => h) ⟨Or.inl ⟨by rfl, ?_⟩, fun _ => rfl⟩ ?_; rotate_left; · (intro w; go_simp; try with_reducible rfl)
                               refine wpAnyIn_take (i := 11) (v := ?_) rfl rfl (by kernel_rfl) (by kernel_rfl) (by kernel_rfl) (fun _ _ _ h => h) ⟨Or.inl ⟨by rfl, ?_⟩, fun _ => rfl⟩ ?_; rotate_left; · (intro w; go_simp; try with_reducible rfl)
                               refine wpAnyIn_ready (rs := [0, 3, 9]) (by kernel_rfl) (by simp) ?_
                               refine AllReadyIn.cons rfl (fun K hK => ?_) ?_
                               · go_simp
                                 refine hK _ _ ?_
                                 clear hK K
                                 exact k100.out
                               refine AllReadyIn.cons rfl (fun K hK => ?_) ?_
                               · go_simp
                                 refine hK _ _ ?_
                                 clear hK K
                                 refine wpAnyIn_take (i := 6) (v := ?_) rfl rfl (by kernel_rfl) (by kernel_rfl) (by kernel_rfl) (fun _ _ _ h => h) ⟨Or.inl ⟨by rfl, ?_⟩, fun _ => rfl⟩ ?_; rotate_left; · (intro w; go_simp; try with_reducible rfl)
                                 exact k010.out
                               refine AllReadyIn.cons rfl (fun K hK => ?_) ?_
                               · go_simp
                                 refine hK _ _ ?_
                                 clear hK K
                                 refine wpAnyIn_take (i := 12) (v := ?_) rfl rfl (by kernel_rfl) (by kernel_rfl) (by kernel_rfl) (fun _ _ _ h => h) ⟨Or.inl ⟨by rfl, ?_⟩, fun _ => rfl⟩ ?_; rotate_left; · (intro w; go_simp; try with_reducible rfl)
                                 exact k001.out
                               exact AllReadyIn.nil
                              case g =>
                               refine wpAnyIn_ready (rs := [0, 3, 13]) (by kernel_rfl) (by simp) ?_
                               refine AllReadyIn.cons rfl (fun K hK => ?_) ?_
                               · go_simp
                                 refine hK _ _ ?_
                                 clear hK K
                                 exact k101.out
                               refine AllReadyIn.cons rfl (fun K hK => ?_) ?_
                               · go_simp
                                 refine hK _ _ ?_
                                 clear hK K
                                 refine wpAnyIn_take (i := 6) (v := ?_) rfl rfl (by kernel_rfl) (by kernel_rfl) (by kernel_rfl) (fun _ _ _ h => h) ⟨Or.inl ⟨by rfl, ?_⟩, fun _ => rfl⟩ ?_; rotate_left; · (intro w; go_simp; try with_reducible rfl)
                                 exact k011.out
                               refine AllReadyIn.cons rfl (fun K hK => ?_) ?_
                               · go_simp
                                 refine hK _ _ ?_
                                 clear hK K
                                 exact k002.out
                               exact AllReadyIn.nil
                             case g =>
                              refine wpAnyIn_ready (rs := [0, 7, 9]) (by kernel_rfl) (by simp) ?_
                              refine AllReadyIn.cons rfl (fun K hK => ?_) ?_
                              · go_simp
                                refine hK _ _ ?_
                                clear hK K
                                exact k110.out
                              refine AllReadyIn.cons rfl (fun K hK => ?_) ?_
                              · go_simp
                                refine hK _ _ ?_
                                clear hK K
                                refine wpAnyIn_take (i := 8) (v := ?_) rfl rfl (by kernel_rfl) (by kernel_rfl) (by kernel_rfl) (fun _ _ _ h => h) ⟨Or.inl ⟨by rfl, ?_⟩, fun _ => rfl⟩ ?_; rotate_left; · (intro w; go_simp; try with_reducible rfl)
                                exact k020.out
                              refine AllReadyIn.cons rfl (fun K hK => ?_) ?_
                              · go_simp
                                refine hK _ _ ?_
                                clear hK K
                                refine wpAnyIn_take (i := 12) (v := ?_) rfl rfl (by kernel_rfl) (by kernel_rfl) (by kernel_rfl) (fun _ _ _ h => h) ⟨Or.inl ⟨by rfl, ?_⟩, fun _ => rfl⟩ ?_; rotate_left; · (intro w; go_simp; try with_reducible rfl)
                                exact k011.out
                              exact AllReadyIn.nil
                            case g =>
                             refine wpAnyIn_ready (rs := [3, 9]) (by kernel_rfl) (by simp) ?_
                             refine AllReadyIn.cons rfl (fun K hK => ?_) ?_
                             · go_simp
                               refine hK _ _ ?_
                               clear hK K
                               refine wpAnyIn_take (i := 6) (v := ?_) rfl rfl (by kernel_rfl) (by kernel_rfl) (by kernel_rfl) (fun _ _ _ h => h) ⟨Or.inl ⟨by rfl, ?_⟩, fun _ => rfl⟩ ?_; rotate_left; · (intro w; go_simp; try with_reducible rfl)
                               exact k110.out
                             refine AllReadyIn.cons rfl (fun K hK => ?_) ?_
                             · go_simp
                               refine hK _ _ ?_
                               clear hK K
                               refine wpAnyIn_take (i := 12) (v := ?_) rfl rfl (by kernel_rfl) (by kernel_rfl) (by kernel_rfl) (fun _ _ _ h => h) ⟨Or.inl ⟨by rfl, ?_⟩, fun _ => rfl⟩ ?_; rotate_left; · (intro w; go_simp; try with_reducible rfl)
                               exact k101.out
                             exact AllReadyIn.nil
                           case g =>
                            refine wpAnyIn_ready (rs := [0, 3]) (by kernel_rfl) (by simp) ?_
                            refine AllReadyIn.cons rfl (fun K hK => ?_) ?_
                            · go_simp
                              refine hK _ _ ?_
                              clear hK K
                              exact k102.out
                            refine AllReadyIn.cons rfl (fun K hK => ?_) ?_
                            · go_simp
                              refine hK _ _ ?_
                              clear hK K
                              refine wpAnyIn_take (i := 6) (v := ?_) rfl rfl (by kernel_rfl) (by kernel_rfl) (by kernel_rfl) (fun _ _ _ h => h) ⟨Or.inl ⟨by rfl, ?_⟩, fun _ => rfl⟩ ?_; rotate_left; · (intro w; go_simp; try with_reducible rfl)
                              exact k012.out
                            exact AllReadyIn.nil
                          case g =>
                           refine wpAnyIn_ready (rs := [0, 7, 13]) (by kernel_rfl) (by simp) ?_
                           refine AllReadyIn.cons rfl (fun K hK => ?_) ?_
                           · go_simp
                             refine hK _ _ ?_
                             clear hK K
                             exact k111.out
                           refine AllReadyIn.cons rfl (fun K hK => ?_) ?_
                           · go_simp
                             refine hK _ _ ?_
                             clear hK K
                             refine wpAnyIn_take (i := 8) (v := ?_) rfl rfl (by kernel_rfl) (by kernel_rfl) (by kernel_rfl) (fun _ _ _ h => h) ⟨Or.inl ⟨by rfl, ?_⟩, fun _ => rfl⟩ ?_; rotate_left; · (intro w; go_simp; try with_reducible rfl)
                             exact k021.out
                           refine AllReadyIn.cons rfl (fun K hK => ?_) ?_
                           · go_simp
                             refine hK _ _ ?_
                             clear hK K
                             exact k012.out
                           exact AllReadyIn.nil
                         case g =>
                          refine wpAnyIn_ready (rs := [0, 9]) (by kernel_rfl) (by simp) ?_
                          refine AllReadyIn.cons rfl (fun K hK => ?_) ?_
                          · go_simp
                            refine hK _ _ ?_
                            clear hK K
                            exact k120.out
                          refine AllReadyIn.cons rfl (fun K hK => ?_) ?_
                          · go_simp
                            refine hK _ _ ?_
                            clear hK K
                            refine wpAnyIn_take (i := 12) (v := ?_) rfl rfl (by kernel_rfl) (by kernel_rfl) (by kernel_rfl) (fun _ _ _ h => h) ⟨Or.inl ⟨by rfl, ?_⟩, fun _ => rfl⟩ ?_; rotate_left; · (intro w; go_simp; try with_reducible rfl)
                            exact k021.out
                          exact AllReadyIn.nil
                        case g =>
                         refine wpAnyIn_ready (rs := [3, 13]) (by kernel_rfl) (by simp) ?_
                         refine AllReadyIn.cons rfl (fun K hK => ?_) ?_
                         · go_simp
                           refine hK _ _ ?_
                           clear hK K
                           refine wpAnyIn_take (i := 6) (v := ?_) rfl rfl (by kernel_rfl) (by kernel_rfl) (by kernel_rfl) (fun _ _ _ h => h) ⟨Or.inl ⟨by rfl, ?_⟩, fun _ => rfl⟩ ?_; rotate_left; · (intro w; go_simp; try with_reducible rfl)
                           exact k111.out
                         refine AllReadyIn.cons rfl (fun K hK => ?_) ?_
                         · go_simp
                           refine hK _ _ ?_
                           clear hK K
                           exact k102.out
                         exact AllReadyIn.nil
                       case g =>
                        refine wpAnyIn_ready (rs := [7, 9]) (by kernel_rfl) (by simp) ?_
                        refine AllReadyIn.cons rfl (fun K hK => ?_) ?_
                        · go_simp
                          refine hK _ _ ?_
                          clear hK K
                          refine wpAnyIn_take (i := 8) (v := ?_) rfl rfl (by kernel_rfl) (by kernel_rfl) (by kernel_rfl) (fun _ _ _ h => h) ⟨Or.inl ⟨by rfl, ?_⟩, fun _ => rfl⟩ ?_; rotate_left; · (intro w; go_simp; try with_reducible rfl)
                          exact k120.out
                        refine AllReadyIn.cons rfl (fun K hK => ?_) ?_
                        · go_simp
                          refine hK _ _ ?_
                          clear hK K
                          refine wpAnyIn_take (i := 12) (v := ?_) rfl rfl (by kernel_rfl) (by kernel_rfl) (by kernel_rfl) (fun _ _ _ h => h) ⟨Or.inl ⟨by rfl, ?_⟩, fun _ => rfl⟩ ?_; rotate_left; · (intro w; go_simp; try with_reducible rfl)
                          exact k111.out
                        exact AllReadyIn.nil
                      case g =>
                       refine wpAnyIn_ready (rs := [0, 7]) (by kernel_rfl) (by simp) ?_
                       refine AllReadyIn.cons rfl (fun K hK => ?_) ?_
                       · go_simp
                         refine hK _ _ ?_
                         clear hK K
                         exact k112.out
                       refine AllReadyIn.cons rfl (fun K hK => ?_) ?_
                       · go_simp
                         refine hK _ _ ?_
                         clear hK K
                         refine wpAnyIn_take (i := 8) (v := ?_) rfl rfl (by kernel_rfl) (by kernel_rfl) (by kernel_rfl) (fun _ _ _ h => h) ⟨Or.inl ⟨by rfl, ?_⟩, fun _ => rfl⟩ ?_; rotate_left; · (intro w; go_simp; try with_reducible rfl)
                         refine wpAnyIn_take (i := 14) (v := ?_) rfl rfl (by kernel_rfl) (by kernel_rfl) (by kernel_rfl) (fun _ _ _ h => h) ⟨Or.inl ⟨by rfl, ?_⟩, fun _ => rfl⟩ ?_; rotate_left; · (intro w; go_simp; try with_reducible rfl)
                         exact k022.out
                       exact AllReadyIn.nil
                     case g =>
                      refine wpAnyIn_ready (rs := [0, 13]) (by kernel_rfl) (by simp) ?_
                      refine AllReadyIn.cons rfl (fun K hK => ?_) ?_
                      · go_simp
                        refine hK _ _ ?_
                        clear hK K
                        exact k121.out
                      refine AllReadyIn.cons rfl (fun K hK => ?_) ?_
                      · go_simp
                        refine hK _ _ ?_
                        clear hK K
                        refine wpAnyIn_take (i := 14) (v := ?_) rfl rfl (by kernel_rfl) (by kernel_rfl) (by kernel_rfl) (fun _ _ _ h => h) ⟨Or.inl ⟨by rfl, ?_⟩, fun _ => rfl⟩ ?_; rotate_left; · (intro w; go_simp; try with_reducible rfl)
                        exact k022.out
                      exact AllReadyIn.nil
                    case g =>
                     refine wpAnyIn_ready (rs := [3]) (by kernel_rfl) (by simp) ?_
                     refine AllReadyIn.cons rfl (fun K hK => ?_) ?_
                     · go_simp
                       refine hK _ _ ?_
                       clear hK K
                       refine wpAnyIn_take (i := 6) (v := ?_) rfl rfl (by kernel_rfl) (by kernel_rfl) (by kernel_rfl) (fun _ _ _ h => h) ⟨Or.inl ⟨by rfl, ?_⟩, fun _ => rfl⟩ ?_; rotate_left; · (intro w; go_simp; try with_reducible rfl)
                       exact k112.out
                     exact AllReadyIn.nil
                   case g =>
                    refine wpAnyIn_ready (rs := [7, 13]) (by kernel_rfl) (by simp) ?_
                    refine AllReadyIn.cons rfl (fun K hK => ?_) ?_
                    · go_simp
                      refine hK _ _ ?_
                      clear hK K
                      refine wpAnyIn_take (i := 8) (v := ?_) rfl rfl (by kernel_rfl) (by kernel_rfl) (by kernel_rfl) (fun _ _ _ h => h) ⟨Or.inl ⟨by rfl, ?_⟩, fun _ => rfl⟩ ?_; rotate_left; · (intro w; go_simp; try with_reducible rfl)
                      exact k121.out
                    refine AllReadyIn.cons rfl (fun K hK => ?_) ?_
                    · go_simp
                      refine hK _ _ ?_
                      clear hK K
                      exact k112.out
                    exact AllReadyIn.nil
                  case g =>
                   refine wpAnyIn_ready (rs := [9]) (by kernel_rfl) (by simp) ?_
                   refine AllReadyIn.cons rfl (fun K hK => ?_) ?_
                   · go_simp
                     refine hK _ _ ?_
                     clear hK K
                     refine wpAnyIn_take (i := 12) (v := ?_) rfl rfl (by kernel_rfl) (by kernel_rfl) (by kernel_rfl) (fun _ _ _ h => h) ⟨Or.inl ⟨by rfl, ?_⟩, fun _ => rfl⟩ ?_; rotate_left; · (intro w; go_simp; try with_reducible rfl)
                     exact k121.out
                   exact AllReadyIn.nil
                 case g =>
                  refine wpAnyIn_ready (rs := [0]) (by kernel_rfl) (by simp) ?_
                  refine AllReadyIn.cons rfl (fun K hK => ?_) ?_
                  · go_simp
                    refine hK _ _ ?_
                    clear hK K
                    exact k122.out
                  exact AllReadyIn.nil
                case g =>
                 refine wpAnyIn_ready (rs := [7]) (by kernel_rfl) (by simp) ?_
                 refine AllReadyIn.cons rfl (fun K hK => ?_) ?_
                 · go_simp
                   refine hK _ _ ?_
                   clear hK K
                   refine wpAnyIn_take (i := 8) (v := ?_) rfl rfl (by kernel_rfl) (by kernel_rfl) (by kernel_rfl) (fun _ _ _ h => h) ⟨Or.inl ⟨by rfl, ?_⟩, fun _ => rfl⟩ ?_; rotate_left; · (intro w; go_simp; try with_reducible rfl)
                   refine wpAnyIn_take (i := 14) (v := ?_) rfl rfl (by kernel_rfl) (by kernel_rfl) (by kernel_rfl) (fun _ _ _ h => h) ⟨Or.inl ⟨by rfl, ?_⟩, fun _ => rfl⟩ ?_; rotate_left; · (intro w; go_simp; try with_reducible rfl)
                   exact k122.out
                 exact AllReadyIn.nil
               case g =>
                refine wpAnyIn_ready (rs := [13]) (by kernel_rfl) (by simp) ?_
                refine AllReadyIn.cons rfl (fun K hK => ?_) ?_
                · go_simp
                  refine hK _ _ ?_
                  clear hK K
                  refine wpAnyIn_take (i := 14) (v := ?_) rfl rfl (by kernel_rfl) (by kernel_rfl) (by kernel_rfl) (fun _ _ _ h => h) ⟨Or.inl ⟨by rfl, ?_⟩, fun _ => rfl⟩ ?_; rotate_left; · (intro w; go_simp; try with_reducible rfl)
                  exact k122.out
                exact AllReadyIn.nil
              case g =>
               refine wpAnyIn_take (i := 15) (v := ?_) rfl rfl (by kernel_rfl) (by kernel_rfl) (by kernel_rfl) (fun _ _ _ h => h) ⟨Or.inl ⟨by rfl, ?_⟩, fun _ => rfl⟩ ?_; rotate_left; · (intro w; go_simp; try with_reducible rfl)
               refine wpAnyIn_ready (rs := [16]) (by kernel_rfl) (by simp) ?_
               refine AllReadyIn.cons rfl (fun K hK => ?_) AllReadyIn.nil
               go_simp
               refine hK _ _ ?_
               clear hK K
               refine wpAnyIn_done (by kernel_rfl) ?_ _
               exact kfin.out
            case g =>
              have hvv : IntKind.i64.wrap (IntKind.i64.wrap (impl_PowerSum_pwr xv k * bv) + fv) = impl_PowerSum_val (impl_PowerSum_pwr xv k) bv fv := by unfold impl_PowerSum_val; simp only [IntKind.wrap_i64, wrap64]
              rw [hvv]
              have hst := impl_PowerSum_step_eq (list := l0) (b := b) (f := f) (p := l1[x.1].toNat) (i := y.1) (k := k) (xv := xv) (bv := bv) (fv := fv) (by rw [← HXV.out]; simp [rd]) HKP.out HBV.out HFV.out
              rw [if_neg (by rw [HBAD.out]; decide)] at hst
              clear hvv
              generalize impl_PowerSum_val (impl_PowerSum_pwr xv k) bv fv = vv at hst ⊢
              have HST := Aside0.mk hst
              clear hst
              have hst0 : ∀ k, k ≠ W.heap.size → (w'.setCell ⟨W.heap.size, y.1, none⟩ (.int .i64 vv)).drew.drew.heap[k]? = w'.heap[k]? := fun k hk => Below.heap_setCell w' ⟨W.heap.size, y.1, none⟩ _ k (fun e => hk (by cases e; rfl))
              have V2 := Aside0.mk (show Boxed (w'.setCell ⟨W.heap.size, y.1, none⟩ (.int .i64 vv)).drew.drew w.heap.size 44 (.slice A0 l0.length c0) from (hst0 _ HNE.out.1).trans G2.out)
              have V4 := Aside0.mk (show Boxed (w'.setCell ⟨W.heap.size, y.1, none⟩ (.int .i64 vv)).drew.drew (w.heap.size + 1) 2 (.int .i64 0) from (hst0 _ HNE.out.2.1).trans G4.out)
              have V5 := Aside0.mk (show Boxed (w'.setCell ⟨W.heap.size, y.1, none⟩ (.int .i64 vv)).drew.drew (w.heap.size + 1 + 1) 2 (.int .i64 0) from (hst0 _ HNE.out.2.2.1).trans G5.out)
              have VP := Aside0.mk (show Boxed (w'.setCell ⟨W.heap.size, y.1, none⟩ (.int .i64 vv)).drew.drew (w3.heap.size + 1) 44 (.slice A1 l1.length c1) from (hst0 _ HNE.out.2.2.2.1).trans GP.out)
              have V6 := Aside0.mk (show Boxed (w'.setCell ⟨W.heap.size, y.1, none⟩ (.int .i64 vv)).drew.drew w3.heap.size 44 (.slice (some ⟨gb, 0, none⟩) (l0.length + 1) cb) from (hst0 _ HNE.out.2.2.2.2.1).trans G6.out)
              have VX := Aside0.mk (show Boxed (w'.setCell ⟨W.heap.size, y.1, none⟩ (.int .i64 vv)).drew.drew Bx 2 (.int .i64 l1[x.1]) from (hst0 _ HNE.out.2.2.2.2.2.1).trans GX.out)
              have VF := Aside0.mk (show Boxed (w'.setCell ⟨W.heap.size, y.1, none⟩ (.int .i64 vv)).drew.drew (W.heap.size + 1) 44 (.slice (some ⟨W.heap.size, 0, none⟩) (l0.length + 1) (l0.length + 1)) from (hst0 _ HNE.out.2.2.2.2.2.2).trans GF.out)
              have VV := Aside0.mk (show (Kd.int .i64).R 2 (w'.setCell ⟨W.heap.size, y.1, none⟩ (.int .i64 vv)).drew.drew w.heap.size (fun k => w.heap.size + 1 + 1 < k ∧ k < W.heap.size) (.slice (some ⟨gb, 0, none⟩) (l0.length + 1) cb) b from Kd.R_step GV.out (fun k hk _ => hst0 k (Nat.ne_of_lt hk.2)))
              have VR := Aside0.mk (show (Kd.int .i64).R 2 (w'.setCell ⟨W.heap.size, y.1, none⟩ (.int .i64 vv)).drew.drew w.heap.size (fun k => k = W.heap.size) (.slice (some ⟨W.heap.size, 0, none⟩) (l0.length + 1) (l0.length + 1)) (f.set y.1 vv) from by
                have h := Kd.R_putn GR.out (y.1 : Int) vv
                rw [Int.toNat_natCast] at h
                exact Kd.R_drew (Kd.R_drew h))
              have VBX := Aside0.mk (show Below w.heap.size W (w'.setCell ⟨W.heap.size, y.1, none⟩ (.int .i64 vv)).drew.drew from below_drew (below_drew (HBX.out.setCell (p := ⟨W.heap.size, y.1, none⟩) hsW _)))
              have VKX := Aside0.mk (show KeepsFrom W0.heap.size W (w'.setCell ⟨W.heap.size, y.1, none⟩ (.int .i64 vv)).drew.drew from HKX.out.trans (((KeepsOthers.setCell _ _ _).trans ((KeepsOthers.drew _).trans (KeepsOthers.drew _))).from _))
              have VKO := Aside0.mk (show KeepsOthers w' (w'.setCell ⟨W.heap.size, y.1, none⟩ (.int .i64 vv)).drew.drew from (KeepsOthers.setCell _ _ _).trans ((KeepsOthers.drew _).trans (KeepsOthers.drew _)))
              have VKP := Aside0.mk (show ∀ v, Boxed w' (W.heap.size + 1 + 1) 44 v → Boxed (w'.setCell ⟨W.heap.size, y.1, none⟩ (.int .i64 vv)).drew.drew (W.heap.size + 1 + 1) 44 v from fun v hv => (hst0 _ (Nat.ne_of_gt (Nat.lt_succ_of_lt (Nat.lt_succ_self _)))).trans hv)
              have VBY := Aside0.mk (show Below w.heap.size w' (w'.setCell ⟨W.heap.size, y.1, none⟩ (.int .i64 vv)).drew.drew from below_drew (below_drew ((Below.refl _ _).setCell (p := ⟨W.heap.size, y.1, none⟩) hsW _)))
              generalize hW5 : (w'.setCell ⟨W.heap.size, y.1, none⟩ (.int .i64 vv)).drew.drew = W5 at V2 V4 V5 VP V6 VX VF VV VR VBX VKX VKO VKP VBY ⊢
              clear hW5 hst0
              have zF := VF.out.cell
              obtain ⟨zr, zrf⟩ := Kd.R_celln 0 VR.out (y.1 : Int) (Int.natCast_nonneg _) (Int.ofNat_lt.2 (Nat.lt_succ_of_lt hyl))
              rw [Int.toNat_natCast, impl_PowerSum_rdset (f := f) (i := y.1) vv (by rw [K2.out]; exact Nat.lt_succ_of_lt hyl)] at zr
              clear zrf
              gi_wp2_with fail
              refine ⟨trivial, (CallsIn.inRound l2 (CallsIn.inRound l (callsIn_wide.2 (Hand.upTo_calls vv 1000000000000000 _)))).mono ?_⟩
              cases hu : Hand.upToB vv 1000000000000000 with
              | true =>
                have HU := Aside0.mk hu
                clear hu
                rintro e w6 ⟨rfl, q6, rfl⟩
                gi_wp2_with fail
                have hd : KeepsOthers W5 (W5.drewN q6) := ⟨Nat.le_refl _, fun _ _ h _ => h⟩
                refine ⟨(VKO.out.trans hd).from _, ⟨pw_below_drewN VBY.out q6, VKP.out⟩, ⟨⟨V2.out, V4.out, V5.out, VP.out⟩, ⟨V6.out, VX.out, VF.out⟩, Kd.R_drewN VV.out q6, f.set y.1 vv, ?_, by rw [List.length_set]; exact K2.out, Kd.R_drewN VR.out q6⟩, pw_below_drewN VBX.out q6, VKX.out.trans (hd.from _)⟩
                rw [impl_PowerSum_row_snoc, K1.out]
                exact HST.out.trans (if_pos HU.out)
              | false =>
                have HU := Aside0.mk hu
                clear hu
                rintro e w6 ⟨rfl, q6, rfl⟩
                have r4 := V4.out.cell
                have r4f := V4.out.frozen
                have r5 := V5.out.cell
                have r5f := V5.out.frozen
                gi_wp2_with fail
                have hd : KeepsOthers W5 (W5.drewN q6) := ⟨Nat.le_refl _, fun _ _ h _ => h⟩
                have hd2 := (hd.trans (KeepsOthers.setCell _ ⟨w.heap.size + 1, 0, none⟩ (.int .i64 0))).trans (KeepsOthers.setCell _ ⟨w.heap.size + 1 + 1, 0, none⟩ (.int .i64 3))
                refine ⟨(VKO.out.trans hd2).from _, ⟨rfl, ?_, (Boxed.set (W := W5.drewN q6) _ V4.out).other (Nat.ne_of_lt (Nat.lt_succ_self _)) _, (Boxed.other (W := W5.drewN q6) V5.out (Nat.ne_of_gt (Nat.lt_succ_self _)) _).set _⟩, ((pw_below_drewN VBX.out q6).setCell (p := ⟨w.heap.size + 1, 0, none⟩) (Nat.le_succ _) _).setCell (p := ⟨w.heap.size + 1 + 1, 0, none⟩) (Nat.le_trans (Nat.le_succ _) (Nat.le_succ _)) _, VKX.out.trans (hd2.from _)⟩
                rw [impl_PowerSum_row_snoc, K1.out]
                exact HST.out.trans (if_neg (by rw [HU.out]; decide))
          subst ha2
          subst hW3
          simp only [List.setIfInBounds_toArray, List.set_cons_zero, List.set_cons_succ] at hcont
          have HCO := Aside0.mk hcont
          clear hcont
          by_cases hpos : 0 < impl_PowerSum_sz bv
          · have b0 : decide (0 < impl_PowerSum_sz bv) = true := decide_eq_true hpos
            have b1 : (0 < impl_PowerSum_sz bv) = True := eq_true hpos
            have b2 : (impl_PowerSum_sz bv = 0) = False := eq_false (by omega)
            have b3 : (impl_PowerSum_sz bv == 0) = false := by simpa using b2
            have HPOS := Aside0.mk hpos
            clear hpos
            refine wpIn_region_any hmix ?_
            change wpAnyIn _ _ _ _ _ _ _ _ _ (World.drew _)
            refine impl_PowerSum_round1 (l := l2) (F := Fence.wide) rfl (impl_PowerSum_nod (by kernel_rfl)) _ _ _ _ ?_
            refine wpAnyIn_take (i := 0) (v := ?_) rfl rfl (by kernel_rfl) (by kernel_rfl) (by kernel_rfl) (fun _ _ _ h => h) ⟨Or.inl ⟨by rfl, ?_⟩, fun _ => rfl⟩ ?_; rotate_left; · (intro w; go_simp; try with_reducible rfl)
            refine wpAnyIn_take (i := 1) (v := ?_) rfl rfl (by kernel_rfl) (by kernel_rfl) (by kernel_rfl) (fun _ _ _ h => h) ⟨Or.inl ⟨by rfl, ?_⟩, fun _ => rfl⟩ ?_; rotate_left; · (intro w; go_simp; try with_reducible rfl)
            refine wpAnyIn_take (i := 2) (v := ?_) rfl rfl (by kernel_rfl) (by kernel_rfl) (by kernel_rfl) (fun _ _ _ h => h) ⟨Or.inl ⟨by rfl, ?_⟩, fun _ => rfl⟩ ?_; rotate_left; · (intro w; go_simp; try with_reducible rfl)
            refine wpAnyIn_take (i := 3) (v := ?_) rfl rfl (by kernel_rfl) (by kernel_rfl) (by kernel_rfl) (fun _ _ _ h => h) ⟨Or.inl ⟨by rfl, ?_⟩, fun _ => rfl⟩ ?_; rotate_left; · (intro w; go_simp; try with_reducible rfl)
            refine wpAnyIn_take (i := 5) (v := ?_) rfl rfl (by kernel_rfl) (by kernel_rfl) (by kernel_rfl) (fun _ _ _ h => h) ⟨Or.inl ⟨by rfl, ?_⟩, fun _ => rfl⟩ ?_; rotate_left; · (intro w; go_simp; try with_reducible rfl)
            refine wpAnyIn_take (i := 6) (v := ?_) rfl rfl (by kernel_rfl) (by kernel_rfl) (by kernel_rfl) (fun _ _ _ h => h) ⟨Or.inl ⟨by rfl, ?_⟩, fun _ => rfl⟩ ?_; rotate_left; · (intro w; go_simp; try with_reducible rfl)
            refine wpAnyIn_ready (rs := [4]) (by kernel_rfl) (by simp) ?_
            refine AllReadyIn.cons rfl (fun K hK => ?_) AllReadyIn.nil
            go_simp
            refine ⟨trivial, (callsIn_wide.2 (impl_PowerSum_size (impl_PowerSum_pwr xv k) _)).mono ?_⟩
            rintro e w' ⟨rfl, rfl⟩
            refine hK _ _ ?_
            clear hK K
            refine wpAnyIn_take (i := 7) (v := ?_) rfl rfl (by kernel_rfl) (by kernel_rfl) (by kernel_rfl) (fun _ _ _ h => h) ⟨Or.inl ⟨by rfl, ?_⟩, fun _ => rfl⟩ ?_; rotate_left; · (intro w; go_simp; try with_reducible rfl)
            refine wpAnyIn_take (i := 8) (v := ?_) rfl rfl (by kernel_rfl) (by kernel_rfl) (by kernel_rfl) (fun _ _ _ h => h) ⟨Or.inl ⟨by rfl, ?_⟩, fun _ => rfl⟩ ?_; rotate_left; · (intro w; go_simp; try with_reducible rfl)
            refine wpAnyIn_done (by kernel_rfl) ?_ _
            refine hKB _ _ ?_
            have HKA := Aside0.mk hKA
            clear hKA
            gi_wp2_with fail
            · rename_i hb
              have hbad : impl_PowerSum_bad (impl_PowerSum_pwr xv k) bv = true := by
                rw [impl_PowerSum_tdiv HPOS.out] at hb
                unfold impl_PowerSum_bad
                rw [decide_eq_true HPOS.out, Bool.true_and]
                exact decide_eq_true hb
              have hd2 : KeepsOthers W3 (((W3.setCell ⟨w.heap.size + 1, 0, none⟩ (.int .i64 0)).setCell ⟨w.heap.size + 1 + 1, 0, none⟩ (.int .i64 3)).drew) := ((KeepsOthers.setCell _ ⟨w.heap.size + 1, 0, none⟩ (.int .i64 0)).trans (KeepsOthers.setCell _ ⟨w.heap.size + 1 + 1, 0, none⟩ (.int .i64 3))).trans (KeepsOthers.drew _)
              refine ⟨hd2.from _, ⟨rfl, ?_, (Boxed.set (W := W3) _ G4.out).other (Nat.ne_of_lt (Nat.lt_succ_self _)) _, (Boxed.other (W := W3) G5.out (Nat.ne_of_gt (Nat.lt_succ_self _)) _).set _⟩, below_drew ((HBX.out.setCell (p := ⟨w.heap.size + 1, 0, none⟩) (Nat.le_succ _) _).setCell (p := ⟨w.heap.size + 1 + 1, 0, none⟩) (Nat.le_trans (Nat.le_succ _) (Nat.le_succ _)) _), HKX.out.trans (hd2.from _)⟩
              have hst := impl_PowerSum_step_eq (list := l0) (b := b) (f := f) (p := l1[x.1].toNat) (i := y.1) (k := k) (xv := xv) (bv := bv) (fv := fv) (by rw [← HXV.out]; simp [rd]) HKP.out HBV.out HFV.out
              rw [if_pos hbad] at hst
              rw [impl_PowerSum_row_snoc, K1.out]
              exact hst
            · rename_i hb
              have hbad : impl_PowerSum_bad (impl_PowerSum_pwr xv k) bv = false := by
                rw [impl_PowerSum_tdiv HPOS.out] at hb
                unfold impl_PowerSum_bad
                rw [decide_eq_true HPOS.out, Bool.true_and]
                exact decide_eq_false (Int.not_lt.2 hb)
              exact HCO.out hbad _ _ _ _ _ _ _ _ _
          · have b0 : decide (0 < impl_PowerSum_sz bv) = false := decide_eq_false hpos
            have b1 : (0 < impl_PowerSum_sz bv) = False := eq_false hpos
            have HPOS := Aside0.mk hpos
            clear hpos
            refine wpIn_region_any hmix ?_
            change wpAnyIn _ _ _ _ _ _ _ _ _ (World.drew _)
            refine impl_PowerSum_round1 (l := l2) (F := Fence.wide) rfl (impl_PowerSum_nod (by kernel_rfl)) _ _ _ _ ?_
            refine wpAnyIn_take (i := 0) (v := ?_) rfl rfl (by kernel_rfl) (by kernel_rfl) (by kernel_rfl) (fun _ _ _ h => h) ⟨Or.inl ⟨by rfl, ?_⟩, fun _ => rfl⟩ ?_; rotate_left; · (intro w; go_simp; try with_reducible rfl)
            refine wpAnyIn_take (i := 1) (v := ?_) rfl rfl (by kernel_rfl) (by kernel_rfl) (by kernel_rfl) (fun _ _ _ h => h) ⟨Or.inl ⟨by rfl, ?_⟩, fun _ => rfl⟩ ?_; rotate_left; · (intro w; go_simp; try with_reducible rfl)
            refine wpAnyIn_take (i := 2) (v := ?_) rfl rfl (by kernel_rfl) (by kernel_rfl) (by kernel_rfl) (fun _ _ _ h => h) ⟨Or.inl ⟨by rfl, ?_⟩, fun _ => rfl⟩ ?_; rotate_left; · (intro w; go_simp; try with_reducible rfl)
            refine wpAnyIn_take (i := 3) (v := undef) rfl rfl (by kernel_rfl) (by kernel_rfl) (by kernel_rfl) (fun _ _ _ h => h) ⟨Or.inr ⟨by rfl, rfl⟩, fun _ => rfl⟩ ?_
            refine wpAnyIn_take (i := 5) (v := undef) rfl rfl (by kernel_rfl) (by kernel_rfl) (by kernel_rfl) (fun _ _ _ h => h) ⟨Or.inr ⟨by rfl, rfl⟩, fun _ => rfl⟩ ?_
            refine wpAnyIn_take (i := 6) (v := undef) rfl rfl (by kernel_rfl) (by kernel_rfl) (by kernel_rfl) (fun _ _ _ h => h) ⟨Or.inr ⟨by rfl, rfl⟩, fun _ => rfl⟩ ?_
            refine wpAnyIn_ready (rs := [4]) (by kernel_rfl) (by simp) ?_
            refine AllReadyIn.cons rfl (fun K hK => ?_) AllReadyIn.nil
            go_simp
            refine ⟨trivial, hK _ _ ?_⟩
            clear hK K
            refine wpAnyIn_take (i := 7) (v := undef) rfl rfl (by kernel_rfl) (by kernel_rfl) (by kernel_rfl) (fun _ _ _ h => h) ⟨Or.inr ⟨by rfl, rfl⟩, fun _ => rfl⟩ ?_
            refine wpAnyIn_take (i := 8) (v := ?_) rfl rfl (by kernel_rfl) (by kernel_rfl) (by kernel_rfl) (fun _ _ _ h => h) ⟨Or.inl ⟨by rfl, ?_⟩, fun _ => rfl⟩ ?_; rotate_left; · (intro w; go_simp; try with_reducible rfl)
            refine wpAnyIn_done (by kernel_rfl) ?_ _
            refine hKB _ _ ?_
            have HKA := Aside0.mk hKA
            clear hKA
            gi_wp2_with fail
            exact HCO.out (by unfold impl_PowerSum_bad; rw [decide_eq_false (Int.not_lt.2 HPOS.out), Bool.false_and]) _ _ _ _ _ _ _ _ _
    case done2 =>
      rintro ys X rfl ⟨⟨⟨g2, g4, g5, gP⟩, ⟨g6, gX, gF⟩, gV, f, k1, k2, gR⟩, hBX, hKX⟩
      subst ha1
      have y9 := gF.cell
      have y6 := g6.cell
      have z6 := g6.frozen
      have dl := DPl.out
      gi_wp2
      refine ⟨hKX.trans ((KeepsOthers.setCell _ _ _).from _), impl_PowerSum_keep_of DPW.out (gP.other (by omega) _) (hBX.setCell (p := ⟨w3.heap.size, 0, none⟩) (by simp; omega) _), ⟨⟨g2.other (by omega) _, g4.other (by omega) _, g5.other (by omega) _, gP.other (by omega) _⟩, f, some ⟨W.heap.size, 0, none⟩, l0.length + 1, ?_, k2, g6.set _, ?_⟩, below_set (HB0.out.trans hBX) (by omega)⟩
      · rw [impl_PowerSum_out_snoc, E1.out]
        exact k1
      · exact Kd.R_mono (Kd.R_step gR (fun k hk _ => Below.heap_setCell _ _ _ k (fun e => by subst hk; simp at e; omega))) (fun k hk => by subst hk; omega)
    case stop2 =>
      rintro c pre2 X ⟨k, hk, rfl⟩ ⟨⟨rfl, hnone, g4, g5⟩, hBX, hKX⟩
      subst ha1
      gi_wp2
      refine ⟨hKX, ⟨rfl, ?_, g4, g5⟩, HB0.out.trans hBX⟩
      rw [impl_PowerSum_out_snoc, E1.out]
      have h := impl_PowerSum_row_none l0 b l1[x.1].toNat _ ((impl_PowerSum_seq l0.length).drop k) hnone
      rw [List.take_append_drop] at h
      exact h
  case done =>
    rintro D zs W hD rfl ⟨⟨⟨d2, d4, d5, dP⟩, b, Ab, cb, e1, e2, d6, dV⟩, hB1⟩ hK
    subst ha0
    have x4 := d4.cell
    have y4 := d4.frozen
    have x5 := d5.cell
    have y5 := d5.frozen
    have x6 := d6.cell
    obtain ⟨g, cap, ev, hgb, hgl, hcc⟩ := Kd.R_form dV (by omega)
    injection ev with ev1 ev2 ev3
    subst ev1 ev3
    obtain ⟨y0, f0⟩ := Kd.R_celln 0 dV (0 : Int) (Int.le_refl _) (by omega)
    rw [show (0 : Int).toNat = 0 from rfl] at y0 f0
    have E1 := Aside0.mk e1
    have D4 := Aside0.mk d4
    have D5 := Aside0.mk d5
    have HK := Aside0.mk hK
    have HBD := Aside0.mk hB1
    clear e1 e2 ev2 hgb hgl hcc d2 d4 d5 dP d6 dV hK hB1
    have q0 : (0 < l0.length + 1) = True := eq_true (by omega)
    gi_wp2
    have hK1 := (KeepsOthers.setCell W ⟨w.heap.size + 1, 0, none⟩ (.int .i64 (rdOf 0 b 0))).same D _ HK.out rfl
    have hK2 := (KeepsOthers.setCell (W.setCell ⟨w.heap.size + 1, 0, none⟩ (.int .i64 (rdOf 0 b 0))) ⟨w.heap.size + 1 + 1, 0, none⟩ (.int .i64 0)).same D _ hK1 rfl
    refine ⟨by simp, .inl ⟨_, _, rfl, run_takeDeferred hK2, ?_⟩⟩
    refine ⟨_, impl_PowerSum_results (b4 := w.heap.size + 1) (b5 := w.heap.size + 1 + 1) rfl rfl (((D4.out.set _).other (by omega) _).kept (grownBy_putObj' _ D _) (by intro e; cases e; omega)) (((D5.out.other (by omega) _).set _).kept (grownBy_putObj' _ D _) (by intro e; cases e; omega)), ?_, ?_⟩
    · have hr := hres
      unfold impl_PowerSum_res at hr
      rw [E1.out] at hr
      cases hr
      rfl
    · exact (below_set (below_set HBD.out (by omega)) (by omega)).trans (belowK_b (w := w) (Nat.le_refl _) _ D _ _ (by omega) hK2 rfl rfl)
  case stop =>
    rintro D c pre W hD ⟨k, hk, rfl⟩ ⟨⟨rfl, hnone, d4, d5⟩, hB1⟩ hK
    subst ha0
    gi_wp2
    refine ⟨by simp, .inl ⟨_, _, rfl, run_takeDeferred hK, ?_⟩⟩
    refine ⟨_, impl_PowerSum_results (b4 := w.heap.size + 1) (b5 := w.heap.size + 1 + 1) rfl rfl (d4.kept (grownBy_putObj' _ D _) (by intro e; cases e; omega)) (d5.kept (grownBy_putObj' _ D _) (by intro e; cases e; omega)), ?_, ?_⟩
    · have hr := hres
      have h2 := impl_PowerSum_out_none l0 l1 _ ((impl_PowerSum_seq l1.length).drop k) hnone
      rw [List.take_append_drop] at h2
      unfold impl_PowerSum_res at hr
      rw [h2] at hr
      cases hr
      rfl
    · exact hB1.trans (belowK_b (w := w) (Nat.le_refl _) _ D _ _ (by omega) hK rfl rfl)
end
theorem impl_PowerSum.calls (A0 : Option Addr) (c0 : Nat) (l0 : List Int) (A1 : Option Addr) (c1 : Nat) (l1 : List Int) (r1 : Int) (r2 : Int) (w : World) (hr0 : Kd.C (Kd.int .i64) w A0 l0.length l0) (hc0 : l0.length ≤ c0) (hr1 : Kd.C (Kd.int .i64) w A1 l1.length l1) (hc1 : l1.length ≤ c1) (h : impl_PowerSum.f l0 l1 = some (r1, r2)) :
    Calls Try.prog 39 #[.slice A0 l0.length c0, .slice A1 l1.length c1] w fun e w' => e = .returned (.tuple #[.int .i64 r1, .int .i64 r2]) ∧ Below w.heap.size w w' := by
  unfold impl_PowerSum.f at h
  cases hn : impl_areNumbers.f l0 with
  | none => rw [hn] at h; cases h
  | some b =>
    rw [hn, Option.bind_some] at h
    cases b with
    | false =>
      cases h
      exact impl_PowerSum_no A0 c0 l0 A1 c1 l1 w hr0 hc0 hn
    | true =>
      rw [if_pos rfl] at h
      cases hp : impl_PowerSum_isParts l1 6 with
      | false =>
        rw [hp] at h
        cases h
        exact impl_PowerSum_no2 A0 c0 l0 A1 c1 l1 w hr0 hc0 hr1 hn hp
      | true =>
        rw [hp, if_pos rfl] at h
        exact impl_PowerSum_yes A0 c0 l0 A1 c1 l1 r1 r2 w hr0 hc0 hr1 hn hp (Option.some.inj h)


end Go.Proofs.Ytbpipmkgclkhgaa.P
