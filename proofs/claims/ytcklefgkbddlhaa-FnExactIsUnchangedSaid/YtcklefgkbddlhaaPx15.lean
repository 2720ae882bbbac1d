/- What a call of each Go function named below comes to is what the plain Lean function beside it says. Made by a program of this session out of the print of the translation; Lean checks it. -/
import Derived.Test.YtcklefgkbddlhaaPx0
import Derived.Test.YtcklefgkbddlhaaPx11
import Derived.Test.YtcklefgkbddlhaaPx12
import Derived.Test.YtcklefgkbddlhaaPx14
import Derived.Laws.Bits64
import Derived.Test.YtcklefgkbddlhaaHandCopyS
namespace Go.Proofs.Ytcklefgkbddlhaa.P
open Go.RowKit Go.Proofs.YtcklefgkbddlhaaW.PrintWords Go.Proofs.YtcklefgkbddlhaaW.PrintLast Go.Proofs.YtcklefgkbddlhaaW.PrintMore
attribute [local go_sem] max2_int min2_int max_two min_two max_three min_three max_four min_four   -- for this text's walks alone
set_option linter.unusedVariables false
set_option linter.unusedSimpArgs false


/-! ### impl_Fraction: function 130, by hand -/
namespace RepP
theorem infoF : (Try.prog.info? 27).map (fun i => (i.zero, i.size, i.bytes)) = some (some (.agg #[.int .i64 0, .int .i64 0]), 2, 16) := by kernel_rfl
theorem mask32 (x : Int) (h0 : 0 ≤ x) (h1 : x < 1000000) : Go.bits .and .u64 x 4294967295 = x := by
  have h := bits_mask .u64 63 (by decide) (fun n h₀ h₁ => by rw [IntKind.wrap_u64]; omega) 32 (by decide) x h0 (by omega)
  have e : ((2 : Int) ^ 32 - 1) = 4294967295 := by decide
  have e2 : ((2 : Int) ^ 32) = 4294967296 := by decide
  rw [e, e2] at h
  rw [h]
  omega
theorem mul_one (n : Nat) (h : n ≤ 1000) : bits_Mul.f 1 (n : Int) = some (0, (n : Int)) := by
  unfold bits_Mul.f bits_Mul64.f
  simp only [Option.bind_some]
  rw [mask32 1 (by decide) (by decide), mask32 (n : Int) (by omega) (by omega)]
  have e0 : (1 : Int) / 4294967296 = 0 := by decide
  have e1 : (n : Int) / 4294967296 = 0 := by omega
  have e2 : ∀ x : Int, 0 ≤ x → x < 1000000 → IntKind.u64.wrap x = x := fun x h0 h1 => by rw [IntKind.wrap_u64]; omega
  have e3 : IntKind.u64.wrap 0 = 0 := e2 0 (by decide) (by decide)
  rw [e0, e1, Int.zero_mul, Int.zero_mul, Int.one_mul, Int.mul_zero, e3, e2 (n : Int) (by omega) (by omega), e1, Int.add_zero, e3, Int.add_zero, mask32 0 (by decide) (by decide)]
  simp [e3]
/-- The cells of many equal fractions. -/
def flat (a b : Int) : Nat → List Value
  | 0 => []
  | m + 1 => .int .i64 a :: .int .i64 b :: flat a b m
theorem flat_length (a b : Int) : ∀ m, (flat a b m).length = m * 2
  | 0 => rfl
  | m + 1 => by rw [flat, List.length_cons, List.length_cons, flat_length a b m]; omega
theorem flat_at (a b : Int) : ∀ m j v, (flat a b m)[j]? = some v → v = (if j % 2 = 0 then .int .i64 a else .int .i64 b)
  | 0, j, v, h => by simp [flat] at h
  | m + 1, 0, v, h => by simp [flat] at h; simp [h]
  | m + 1, 1, v, h => by simp [flat] at h; simp [h]
  | m + 1, j + 2, v, h => by
    have := flat_at a b m j v (by simpa [flat] using h)
    rw [this, show (j + 2) % 2 = j % 2 by omega]
theorem flat_one (a b : Int) (m : Nat) : ∀ v ∈ flat a b m, v.oneCell' = true := by
  intro v hv
  obtain ⟨j, hj, rfl⟩ := List.getElem_of_mem hv
  have := flat_at a b m j _ (List.getElem?_eq_getElem hj)
  rw [this]
  split <;> rfl
section
variable {base g n cap : Nat} {w0 : World} (a b : Int)
theorem fills : ∀ m o (w : World) (x : List S27), Kd.R k27 27 w base (fun _ => True) (.slice (some ⟨g, 0, none⟩) n cap) x → Below w0.heap.size w0 w → w0.heap.size ≤ g → o + m ≤ x.length →
    Kd.R k27 27 (w.setCells g (o * 2) (flat a b m)) base (fun _ => True) (.slice (some ⟨g, 0, none⟩) n cap) (x.take o ++ List.replicate m ⟨a, b⟩ ++ x.drop (o + m)) ∧ Below w0.heap.size w0 (w.setCells g (o * 2) (flat a b m))
  | 0, o, w, x, h, hb, _, _ => ⟨by simp only [List.replicate_zero, flat, World.setCells, List.append_nil, Nat.add_zero, List.take_append_drop]; exact h, hb⟩
  | m + 1, o, w, x, h, hb, hg, hl => by
    have hnx := (Kd.R_reads' h).1
    obtain ⟨c, hcl, hM, hc, hf⟩ := Kd.R_elem h z27 (o : Int) (by omega) (by omega)
    have hs := (Kd.R_seg h (o : Int) (by omega) (by omega) (seg := [.int .i64 a, .int .i64 b]) (j := 0) hcl hc (show 2 ≤ 2 from Nat.le_refl _) (x' := ⟨a, b⟩) (okp := fun _ => False) (by
      have e : List.take 0 c ++ [Value.int .i64 a, .int .i64 b] ++ List.drop (0 + [Value.int .i64 a, .int .i64 b].length) c = [.int .i64 a, .int .i64 b] := by
        rw [List.drop_of_length_le (by rw [hcl]; exact (show 2 ≤ 2 from Nat.le_refl _))]
        rfl
      rw [e]
      exact k27_mkM _ _ _ ⟨a, b⟩) (fun _ hk => hk.elim)).1
    rw [Int.toNat_natCast] at hs
    obtain ⟨p, q⟩ := fills m (o + 1) _ (x.set o ⟨a, b⟩) hs (below_set (below_set hb hg) hg) hg (by rw [List.length_set]; omega)
    have e : (x.set o ⟨a, b⟩).take (o + 1) ++ List.replicate m ⟨a, b⟩ ++ (x.set o ⟨a, b⟩).drop (o + 1 + m) = x.take o ++ List.replicate (m + 1) ⟨a, b⟩ ++ x.drop (o + (m + 1)) := by
      rw [List.take_succ_eq_append_getElem (by rw [List.length_set]; omega), List.take_set_of_le (Nat.le_refl _), List.getElem_set_self, List.drop_set_of_lt (by omega), show o + 1 + m = o + (m + 1) from by omega, List.replicate_succ]
      simp
    rw [e] at p
    have e2 : (w.setCells g (o * 2) (flat a b (m + 1))) = ((w.setCells g (o * 2 + 0) [.int .i64 a, .int .i64 b]).setCells g ((o + 1) * 2) (flat a b m)) := by
      simp only [flat, World.setCells]
      rw [show (o + 1) * 2 = o * 2 + 1 + 1 from by omega]
      rfl
    rw [e2]
    exact ⟨p, q⟩
end
theorem frozen_of {base g n cap : Nat} {ok : Nat → Prop} {x : List S27} {w : World} (h : Kd.R k27 27 w base ok (.slice (some ⟨g, 0, none⟩) n cap) x) (j : Nat) : w.frozen? ⟨g, j, none⟩ = false := by
  obtain ⟨inner, ho⟩ := Kd.R_own h
  obtain ⟨cells, hcc⟩ := own_typed ho g (by simp [Value.ownBlock])
  exact blk_frozen hcc j
theorem cell_of {base g n cap : Nat} {ok : Nat → Prop} {x : List S27} {w : World} (h : Kd.R k27 27 w base ok (.slice (some ⟨g, 0, none⟩) n cap) x) (j : Nat) (hj : j < n * 2) : w.cell? ⟨g, j, none⟩ = some (if j % 2 = 0 then .int .i64 (rd_T27 x ((j / 2 : Nat) : Int)).f0 else .int .i64 (rd_T27 x ((j / 2 : Nat) : Int)).f1) := by
  obtain ⟨c, hcl, hM, hc, hf⟩ := Kd.R_elem h z27 ((j / 2 : Nat) : Int) (by omega) (by omega)
  obtain rfl := k27_openM hM
  rw [Int.toNat_natCast] at hc
  by_cases h2 : j % 2 = 0
  · rw [if_pos h2]
    have := hc 0 _ rfl
    rw [show j / 2 * k27.sz + 0 = j from by show j / 2 * 2 + 0 = j; omega] at this
    exact this
  · rw [if_neg h2]
    have := hc 1 _ rfl
    rw [show j / 2 * k27.sz + 1 = j from by show j / 2 * 2 + 1 = j; omega] at this
    exact this
theorem copy_first (a b : Int) (n cap c g : Nat) (ad : Addr) (base : Nat) (w : World) (ty : TypeId) (h1 : 1 ≤ n) {ok : Nat → Prop} {x : List S27} (h : Kd.R k27 27 w base ok (.slice (some ⟨g, 0, none⟩) n cap) x) (hx : w.cell? ad = some (.int .i64 a)) (hy : w.cell? (ad.add 1) = some (.int .i64 b)) :
    (Builtin.copy_ #[77, 77] ty #[.slice (some ⟨g, 0, none⟩) n cap, .slice (some ad) 1 c]).run Try.prog w = .ok (.int .i64 1) (w.setCells g 0 (flat a b 1)) := by
  have hm : Nat.min 1 n = 1 := Nat.min_eq_left h1
  have := run_copy_sized (P := Try.prog) w 77 77 ty 27 g 0 n cap ad 1 c 2 (flat a b 1) Try.underlying77 (by simpa using congrArg (fun o => o.map (fun q => q.2.1)) infoF) (by rw [hm]; rfl) (by
      intro j v hj
      match j, hj with
      | 0, hj => (obtain rfl : (Value.int .i64 a) = v := by simpa [flat] using hj); rw [Addr.add_zero']; exact hx
      | 1, hj => (obtain rfl : (Value.int .i64 b) = v := by simpa [flat] using hj); exact hy) (by
      intro j hj
      rw [Nat.zero_add, cell_of h j (by rw [flat_length] at hj; omega)]
      rfl) (by intro j hj; exact frozen_of h _) (flat_one a b 1)
  rw [hm] at this
  exact this
set_option maxHeartbeats 8000000 in
set_option maxRecDepth 100000 in
theorem repeat_one (a b : Int) (n : Nat) (h1 : 1 ≤ n) (h13 : n ≤ 1000) (ad : Addr) (c : Nat) (w : World) (hx : w.cell? ad = some (.int .i64 a)) (hy : w.cell? (ad.add 1) = some (.int .i64 b)) :
    Calls Try.prog 130 #[.slice (some ad) 1 c, .int .i64 n] w fun e w' => ∃ v : Value, e = .returned v ∧ Kd.R k27 27 w' w.heap.size (fun _ => True) v (List.replicate n ⟨a, b⟩) ∧ Below w.heap.size w w' := by
  have hu64 : IntKind.u64.wrap (n : Int) = n := by simp only [IntKind.wrap_u64]; omega
  have hi64 : IntKind.i64.wrap (n : Int) = n := by simp only [IntKind.wrap_i64]; omega
  have b0 : decide ((n : Int) < 0) = false := decide_eq_false (by omega)
  have b1 : decide ((9223372036854775807 : Int) < (n : Int)) = false := decide_eq_false (by omega)
  have HM := Aside0.mk (mul_one n h13)
  have H1 := Aside0.mk h1
  have H13 := Aside0.mk h13
  have HX := Aside0.mk hx
  have HY := Aside0.mk hy
  clear hx hy
  go_enter Try.func130, Try.ntmps130
  go_wp2_with (first | (go_at_call 163; refine (bits_Mul.calls 1 n 0 n _ HM.out).mono ?_; rintro e w' ⟨rfl, nd, rfl⟩) | ((with_reducible refine gate_dst (N := 30) rfl ?_); (refine Kd.R_make k27 _ 27 rfl (N := 30) rfl 77 _ _ rfl (n : Int) rfl rfl Try.underlying77 (.agg #[.int .i64 0, .int .i64 0]) 16 infoF rfl (by decide) (by omega) z27 (ok := fun _ => True) (okp := fun _ => True) (k27_mkM _ _ _ z27) (fun _ hk => hk) trivial (by omega) (by rw [Int.toNat_natCast]; omega) (Below.refl _ _) (Nat.le_refl _) ?_; intro v30 w7 ho5 hb hg_ hnew_; clear hg_ hnew_; obtain ⟨g, cap, ev, hgb, hgl, hcc⟩ := Kd.R_form ho5 (by rw [List.length_replicate, Int.toNat_natCast]; exact H1.out); rw [List.length_replicate, Int.toNat_natCast] at ev; subst ev; have hnc := (Kd.R_reads' ho5).2.1; rw [Int.toNat_natCast] at ho5; have HN := Aside0.mk ho5; have HB := Aside0.mk (below_step (pw_below_drewN (Below.refl w.heap.size w) nd) hb); have HG := Aside0.mk (show w.heap.size ≤ g from hgb); have HNC := Aside0.mk hnc; have hx7 := (hb.cell (World.block_lt_of_cell? _ _ HX.out)).trans HX.out; have hy7 := (hb.cell (World.block_lt_of_cell? _ _ HY.out)).trans HY.out; have hcp : ∀ (W : World) (ty : TypeId), W = w7 → (Builtin.copy_ #[77, 77] ty #[.slice (some ⟨g, 0, none⟩) n cap, .slice (some ad) 1 c]).run Try.prog W = .ok (.int .i64 1) (w7.setCells g 0 (flat a b 1)) := (by rintro W ty rfl; exact copy_first a b n cap c g ad _ W ty H1.out HN.out hx7 hy7); clear hgl hcc ho5 hb hx7 hy7)))
  go_loopg [8] n (fun gg s8 wr => ∃ m : Nat, 1 ≤ m ∧ m ≤ n ∧ n - m ≤ gg ∧ s8 = .int .i64 m ∧ Aside0 (Kd.R k27 27 wr w.heap.size (fun _ => True) (.slice (some ⟨g, 0, none⟩) n cap) (List.replicate m ⟨a, b⟩ ++ List.replicate (n - m) z27)) ∧ Aside0 (Below w.heap.size w wr))
  case atStart =>
    obtain ⟨p, q⟩ := fills a b 1 0 w7 _ HN.out HB.out HG.out (by rw [List.length_replicate]; exact H1.out)
    refine ⟨1, Nat.le_refl _, H1.out, by omega, rfl, ⟨?_⟩, ⟨q⟩⟩
    rw [List.take_zero, List.nil_append, List.drop_replicate, Nat.zero_add] at p
    exact p
  case round =>
    clear HN HB
    obtain ⟨m, hm1, hmn, hgg, rfl, HR, HBB⟩ := hrel
    by_cases hlt : m < n
    · have hltz : (m : Int) < (n : Int) := by omega
      obtain ⟨q, hq⟩ : ∃ q, Nat.min m (n - m) = q := ⟨_, rfl⟩
      have hq1 : q ≤ m := by rw [← hq]; exact Nat.min_le_left _ _
      have hq2 : q ≤ n - m := by rw [← hq]; exact Nat.min_le_right _ _
      have hq0 : 0 < q := by rw [← hq]; exact Nat.lt_min.2 ⟨by omega, by omega⟩
      have hcap := HNC.out
      have hlen : (List.replicate m (⟨a, b⟩ : S27) ++ List.replicate (n - m) z27).length = n := by rw [List.length_append, List.length_replicate, List.length_replicate]; omega
      have HRd := Aside0.mk (Kd.R_drew HR.out)
      have hcp : ∀ (W : World) (ty : TypeId), W = wr.drew → (Builtin.copy_ #[77, 77] ty #[.slice (some ⟨g, m * 2, none⟩) (n - m) (cap - m), .slice (some ⟨g, 0, none⟩) m cap]).run Try.prog W = .ok (.int .i64 q) (wr.drew.setCells g (m * 2) (flat a b q)) := by
        rintro W ty rfl
        have := run_copy_sized (P := Try.prog) wr.drew 77 77 ty 27 g (m * 2) (n - m) (cap - m) ⟨g, 0, none⟩ m cap 2 (flat a b q) Try.underlying77 (by simpa using congrArg (fun o => o.map (fun q => q.2.1)) infoF) (by rw [flat_length, hq]) (by
          intro j v hj
          have hjl := (List.getElem?_eq_some_iff.1 hj).1
          rw [flat_length] at hjl
          have hv := flat_at a b q j v hj
          rw [add_at, Nat.zero_add, cell_of HRd.out j (by omega), hv]
          have e : rd_T27 (List.replicate m (⟨a, b⟩ : S27) ++ List.replicate (n - m) z27) ((j / 2 : Nat) : Int) = ⟨a, b⟩ := by
            have hjm : j / 2 < m := by omega
            unfold rd_T27
            rw [Int.toNat_natCast, List.getD_eq_getElem?_getD, List.getElem?_append_left (by rw [List.length_replicate]; exact hjm), List.getElem?_replicate, if_pos hjm]
            rfl
          rw [e]) (by
          intro j hj
          rw [flat_length] at hj
          rw [cell_of HRd.out (m * 2 + j) (by omega)]
          rfl) (by intro j hj; exact frozen_of HRd.out _) (flat_one a b q)
        rw [hq] at this
        exact this
      have HZ := Aside0.mk (fills a b q m wr.drew _ HRd.out (below_drew1 HBB.out) HG.out (by rw [hlen]; omega))
      have pm : (0 ≤ (m : Int)) = True := eq_true (by omega)
      have qm : ((m : Int) ≤ (n : Int)) = True := eq_true (by omega)
      have qm1 : (m ≤ n) = True := eq_true hmn
      have qm2 : ((m : Int) ≤ (cap : Int)) = True := eq_true (by omega)
      have qm3 : (m ≤ cap) = True := eq_true (by omega)
      have qm4 : (cap = m) = False := eq_false (by omega)
      have qm5 : (m = cap) = False := eq_false (by omega)
      clear hlen
      go_wp2
      go_region
      all_goals go_wp2
      go_roundg (n - (m + q))
      case measure => omega
      case rel =>
        refine ⟨m + q, by omega, by omega, by omega, ?_, ⟨?_⟩, ⟨HZ.out.2⟩⟩
        · congr 1
        · have h := HZ.out.1
          have e1 : (List.replicate m (⟨a, b⟩ : S27) ++ List.replicate (n - m) z27).take m = List.replicate m ⟨a, b⟩ := by
            rw [List.take_left' (by rw [List.length_replicate])]
          have e2 : (List.replicate m (⟨a, b⟩ : S27) ++ List.replicate (n - m) z27).drop (m + q) = List.replicate (n - (m + q)) z27 := by
            rw [← List.drop_drop, List.drop_left' (by rw [List.length_replicate]), List.drop_replicate]
            congr 1
            omega
          rw [e1, e2, ← List.replicate_append_replicate.symm] at h
          exact h
    · have hltz : ¬ (m : Int) < (n : Int) := by omega
      obtain rfl : m = n := by omega
      go_wp2
      go_ret
      refine ⟨_, rfl, ?_, HBB.out⟩
      have := HR.out
      rwa [Nat.sub_self, List.replicate_zero, List.append_nil] at this
end RepP
/-- A fraction so many times. -/
def impl_Fraction.f (l0 : List S27) (a1 : Int) : Option (List S27) := if l0.length = 1 ∧ 1 ≤ a1 ∧ a1 ≤ 1000 then some (List.replicate a1.toNat (rd_T27 l0 0)) else none
theorem impl_Fraction.calls (A0 : Option Addr) (c0 : Nat) (l0 : List S27) (a1 : Int) (r : List S27) (w : World) (hr0 : Kd.C k27 w A0 l0.length l0) (hc0 : l0.length ≤ c0) (h : impl_Fraction.f l0 a1 = some r) :
    Calls Try.prog 130 #[.slice A0 l0.length c0, .int .i64 a1] w fun e w' => ∃ v0_ : Value, e = .returned (v0_) ∧ Kd.R k27 27 w' w.heap.size (fun _ => True) v0_ r ∧ Below w.heap.size w w' := by
  unfold impl_Fraction.f at h
  by_cases hl : l0.length = 1 ∧ 1 ≤ a1 ∧ a1 ≤ 1000
  · rw [if_pos hl] at h
    obtain rfl := Option.some.inj h
    obtain ⟨n, rfl⟩ : ∃ n : Nat, a1 = n := ⟨a1.toNat, by omega⟩
    obtain ⟨ad, rfl, x0, x1⟩ := at_T27 hr0 0 (by omega) (by omega)
    rw [hl.1, Int.toNat_natCast]
    exact RepP.repeat_one (rd_T27 l0 0).f0 (rd_T27 l0 0).f1 n (by omega) (by omega) ad c0 w (by simpa [Addr.add] using x0) (by simpa [Addr.add] using x1)
  · rw [if_neg hl] at h
    cases h


/-! ### impl_zero: function 131 -/
def impl_zero.f  : Option (Int × Int) := some (0, 1)
set_option maxHeartbeats 8000000 in
set_option maxRecDepth 100000 in
theorem impl_zero.calls  (r1 : Int) (r2 : Int) (w : World) (h : impl_zero.f  = some (r1, r2)) :
    Calls Try.prog 131 #[] w fun e w' => e = .returned (.agg #[.int .i64 r1, .int .i64 r2]) ∧ Below w.heap.size w w' := by
  have hu27 := Try.underlying27
  have HB := Aside0.mk (Below.refl w.heap.size w)
  have H : (some (0, 1)) = some (r1, r2) := h
  clear h
  simp only [Option.some.injEq, Prod.mk.injEq] at H
  obtain ⟨rfl, rfl⟩ := H
  go_enter Try.func131, Try.ntmps131
  go_wp2_with (first | ((with_reducible refine gate_dst (N := 0) rfl ?_); refine zX 0 (#[.int .i64 0, .int .i64 0]) 27 ?_; intro gb375 hg w1 hbox hb; have BK375 := Aside0.mk (hbox); have GW375 := Aside0.mk (zG : w.heap.size ≤ gb375); have GE375 := Aside0.mk (zG : w.heap.size ≤ gb375); replace HB := Aside0.mk (below_step zB hb); clear hb hbox hg; obtain ⟨hcz2_0, hcz2_1, hfz2_0, hfz2_1⟩ := zC2 BK375))
  refine bodyPost_ret (results_cell_row rfl _ _ gb375 27 #[.int .i64 0, .int .i64 1] (0, 0) _ rfl (by (with_reducible repeat (first | refine blk_drewN ?_ _ | refine blk_drew ?_ | refine blk_alloc ?_ _)); refine blk_put (cs := #[.int .i64 0, .int .i64 0]) ?_ 1 _ rfl; (with_reducible repeat (first | refine blk_drewN ?_ _ | refine blk_drew ?_ | refine blk_alloc ?_ _)); refine blk_put (cs := #[.int .i64 0, .int .i64 0]) ?_ 0 _ rfl; exact zK) Try.underlying27 rfl (by kernel_rfl)) rfl ?_
  exact ⟨by first | rfl | (simp [errW_none, errW_some] <;> rfl) | (simp [*, errW_none, errW_some] <;> rfl), zB⟩

-- NOT PRINTED: function 85 (impl_newTable)

/-! ### impl_reduced: function 159 -/
def impl_reduced.f (k : Nat) (a0 : Int) (a1 : Int) : Option (Int × Int × Bool) := (impl_common.f k a0 a1).bind fun t389 => (if a1 < 0 then (if (wrap64 (-t389)) = 0 then (none) else ((impl_IsFraction.f k (wrap64 (Int.tdiv a0 (wrap64 (-t389)))) (wrap64 (Int.tdiv a1 (wrap64 (-t389))))).bind fun t391 => (some (wrap64 (Int.tdiv a0 (wrap64 (-t389))), wrap64 (Int.tdiv a1 (wrap64 (-t389))), t391)))) else (if t389 = 0 then (none) else ((impl_IsFraction.f k (wrap64 (Int.tdiv a0 t389)) (wrap64 (Int.tdiv a1 t389))).bind fun t393 => (some (wrap64 (Int.tdiv a0 t389), wrap64 (Int.tdiv a1 t389), t393)))))
theorem impl_reduced.mono : ∀ a0 a1 k, LeO (impl_reduced.f k a0 a1) (impl_reduced.f (k + 1) a0 a1) := by
  intro a0 a1 k
  unfold impl_reduced.f
  repeat' first
      | (with_reducible exact impl_IsFraction.mono _ _ _)
      | (with_reducible exact impl_common.mono _ _ _)
      | (with_reducible exact LeO.refl _)
      | (with_reducible exact LeO.none _)
      | (with_reducible refine LeO.ite ?_ ?_)
      | (with_reducible refine LeO.bind ?_ (fun _ => ?_))
def impl_reduced.T4 : Bool × List (List Nat × List Nat) := (true, [([], []), ([], []), ([0, 1], [0, 1]), ([], []), ([], []), ([3, 4], [3, 4]), ([2, 5], [2, 5]), ([], []), ([7, 6, 0, 1, 2, 3, 4, 5, 6, 7], [6, 7])])
def impl_reduced.B4 : List Nat := [0, 0, 3, 0, 0, 24, 63, 0, 255]
theorem impl_reduced.tab4 : rtab .any (opsOf Try.f159 4) = impl_reduced.T4 := by kernel_rfl
theorem impl_reduced.bits4 : waitsOk impl_reduced.T4.2 impl_reduced.B4 = true := by kernel_rfl
set_option maxHeartbeats 8000000 in
set_option maxRecDepth 100000 in
theorem impl_reduced.calls (k : Nat) (a0 : Int) (a1 : Int) (r1 : Int) (r2 : Int) (r3 : Bool) (w : World) (h : impl_reduced.f k a0 a1 = some (r1, r2, r3)) :
    Calls Try.prog 159 #[.int .i64 a0, .int .i64 a1] w fun e w' => e = .returned (.tuple #[.agg #[.int .i64 r1, .int .i64 r2], .bool r3]) ∧ Below w.heap.size w w' := by
  have hu27 := Try.underlying27
  have HB := Aside0.mk (Below.refl w.heap.size w)
  have H : ((impl_common.f k a0 a1).bind fun t389 => (if a1 < 0 then (if (wrap64 (-t389)) = 0 then (none) else ((impl_IsFraction.f k (wrap64 (Int.tdiv a0 (wrap64 (-t389)))) (wrap64 (Int.tdiv a1 (wrap64 (-t389))))).bind fun t391 => (some (wrap64 (Int.tdiv a0 (wrap64 (-t389))), wrap64 (Int.tdiv a1 (wrap64 (-t389))), t391)))) else (if t389 = 0 then (none) else ((impl_IsFraction.f k (wrap64 (Int.tdiv a0 t389)) (wrap64 (Int.tdiv a1 t389))).bind fun t393 => (some (wrap64 (Int.tdiv a0 t389), wrap64 (Int.tdiv a1 t389), t393)))))) = some (r1, r2, r3) := h
  clear h
  replace H := Option.bind_eq_some_iff.mp H
  obtain ⟨t389, A30, H⟩ := H
  replace H : (if a1 < 0 then (if (wrap64 (-t389)) = 0 then (none) else ((impl_IsFraction.f k (wrap64 (Int.tdiv a0 (wrap64 (-t389)))) (wrap64 (Int.tdiv a1 (wrap64 (-t389))))).bind fun t391 => (some (wrap64 (Int.tdiv a0 (wrap64 (-t389))), wrap64 (Int.tdiv a1 (wrap64 (-t389))), t391)))) else (if t389 = 0 then (none) else ((impl_IsFraction.f k (wrap64 (Int.tdiv a0 t389)) (wrap64 (Int.tdiv a1 t389))).bind fun t393 => (some (wrap64 (Int.tdiv a0 t389), wrap64 (Int.tdiv a1 t389), t393))))) = some (r1, r2, r3) := H
  have A3 := Aside0.mk A30
  clear A30
  by_cases c4 : a1 < 0
  · rw [if_pos c4] at H
    have c4b0 : decide (a1 < 0) = true := decide_eq_true c4
    clear c4
    by_cases c5 : (wrap64 (-t389)) = 0
    · rw [if_pos c5] at H
      exact absurd H (by simp)
    · rw [if_neg c5] at H
      have c5b0 : ((wrap64 (-t389)) == 0) = false := beq_eq_false_iff_ne.mpr c5
      have c5b1 : ((wrap64 (-t389)) != 0) = true := bne_iff_ne.mpr c5
      replace H := Option.bind_eq_some_iff.mp H
      obtain ⟨t391, A60, H⟩ := H
      replace H : (some (wrap64 (Int.tdiv a0 (wrap64 (-t389))), wrap64 (Int.tdiv a1 (wrap64 (-t389))), t391)) = some (r1, r2, r3) := H
      have A6 := Aside0.mk A60
      clear A60
      simp only [Option.some.injEq, Prod.mk.injEq] at H
      obtain ⟨rfl, rfl, rfl⟩ := H
      go_enter Try.func159, Try.ntmps159
      try go_wp2_with (first | ((with_reducible refine gate_dst (N := 4) rfl ?_); refine zX 4 (#[.int .i64 0, .int .i64 0]) 27 ?_; intro gb388 hg w7 hbox hb; have BK388 := Aside0.mk (hbox); have GW388 := Aside0.mk (zG : w.heap.size ≤ gb388); have GE388 := Aside0.mk (zG : w.heap.size ≤ gb388); replace HB := Aside0.mk (below_step zB hb); clear hb hbox hg) | ((with_reducible refine gate_callee (f := 158) rfl ?_); refine goesL_ (some 10) rfl rfl Try.func158 (by kernel_rfl) rfl #[.int .i64 a0, .int .i64 a1] rfl zM ?_; (with_reducible refine (impl_common.calls k a0 a1 t389 _ A3.out).mono ?_); rintro e w8 ⟨rfl, hb⟩; refine ⟨_, rfl, ?_⟩; replace BK388 := Aside0.mk (zW BK388 hb); replace HB := Aside0.mk (below_step zB hb); (try clear hb); (try clear hb2); (try clear hk); (try clear hi)))
      replace BK388 := Aside0.mk (blk_drew BK388.out)
      replace HB := Aside0.mk (below_drew1 HB.out)
      refine start_ (n := 9) (S := fun w' => True) (ds := []) #[false, false, false, false, false, false, false, false, false] (by kernel_rfl) rfl rfl trivial (fun hHeld => ?_); refine with_tabW impl_reduced.tab4 impl_reduced.bits4 (fun HT_ HW_ => ?_)
      generalize w8.drew = w9 at BK388 HB hHeld ⊢
      refine zP 0 (N := some 15) (h := ?_)
      refine zP 1 (N := some 16) (h := ?_)
      refine zP 2 (N := some 17) (h := ?_)
      refine zP 3 (N := some 18) (h := ?_)
      refine zP 4 (N := some 19) (h := ?_)
      refine zP 5 (N := some 20) (h := ?_)
      refine zP 6 (N := some 21) (h := ?_)
      refine one_ (i := 7) (N := some 7) #[true, true, true, true, true, true, true, true, false] rfl rfl (one_of HT_.out (by kernel_rfl)) (by decide) (fun K hK => ?_)
      refine box_step ?hg (N := 7) ?hd (cs := #[.int .i64 0, .int .i64 0]) (t := 27) ?hr ?_; (case hd => rfl); (case hg => rfl); (case hr => first | (go_simp; done) | (go_simp; rfl))
      intro gb390 hg w10 hbox hb
      have BK390 := Aside0.mk (hbox)
      have GW390 := Aside0.mk (zG : w.heap.size ≤ gb390)
      have GE390 := Aside0.mk (zG : w.heap.size ≤ gb390)
      have NB388_390 := Aside0.mk (zU BK388 hg)
      have NB390_388 := Aside0.mk (zV BK388 hg)
      replace BK388 := Aside0.mk (zW BK388 hb)
      replace HB := Aside0.mk (below_step zB hb)
      clear hb hbox hg
      refine hK.out _ _ trivial (fun hHeld => ?_)
      clear hK K
      refine norm_ (a' := ?_) ?_ ?_
      rotate_left
      · show Act.put _ (some 7) _ = _
        simp only [Act.put, List.setIfInBounds_toArray, List.set_cons_zero, List.set_cons_succ, i64_w, i32_w]
        rfl
      refine one_ (i := 8) (N := none) #[true, true, true, true, true, true, true, true, true] rfl rfl (one_of HT_.out (by kernel_rfl)) (by decide) (fun K hK => ?_)
      have hs11 : w10.cell? ⟨gb390, 0, none⟩ = some (.int .i64 0) := (blk_cell BK390.out 0).trans rfl
      have hfs11 := blk_frozen BK390.out 0
      have hns11_0 := NB388_390.out
      have hms11_0 := NB390_388.out
      have hs12 : w10.cell? ⟨gb390, 1, none⟩ = some (.int .i64 0) := (blk_cell BK390.out 1).trans rfl
      have hfs12 := blk_frozen BK390.out 1
      have hns12_0 := NB388_390.out
      have hms12_0 := NB390_388.out
      refine skip_ (w1 := ?_) (by rfl) rfl ?_ ?_
      rotate_left
      · go_simp
        rfl
      refine hK.out _ _ trivial (fun hHeld => ?_)
      clear hK K
      refine done_ (done_of HT_.out (by kernel_rfl)) ?_
      try go_wp2
      have n0_ : Aside0 (((w10.setCell ⟨gb390, 0, none⟩ (.int .i64 (wrap64 (Int.tdiv a0 (wrap64 (-t389)))))).setCell ⟨gb390, 1, none⟩ (.int .i64 (wrap64 (Int.tdiv a1 (wrap64 (-t389)))))).heap[gb388]? = some (.cells #[.int .i64 0, .int .i64 0] 27 (0, 0))) := ⟨by (with_reducible repeat (first | refine blk_drewN ?_ _ | refine blk_drew ?_ | refine blk_alloc ?_ _)); refine blk_far ?_ NB388_390.out _; (with_reducible repeat (first | refine blk_drewN ?_ _ | refine blk_drew ?_ | refine blk_alloc ?_ _)); refine blk_far ?_ NB388_390.out _; (with_reducible repeat (first | refine blk_drewN ?_ _ | refine blk_drew ?_ | refine blk_alloc ?_ _)); exact BK388.out⟩
      have n1_ : Aside0 (((w10.setCell ⟨gb390, 0, none⟩ (.int .i64 (wrap64 (Int.tdiv a0 (wrap64 (-t389)))))).setCell ⟨gb390, 1, none⟩ (.int .i64 (wrap64 (Int.tdiv a1 (wrap64 (-t389)))))).heap[gb390]? = some (.cells #[.int .i64 (wrap64 (Int.tdiv a0 (wrap64 (-t389)))), .int .i64 (wrap64 (Int.tdiv a1 (wrap64 (-t389))))] 27 (0, 0))) := ⟨by (with_reducible repeat (first | refine blk_drewN ?_ _ | refine blk_drew ?_ | refine blk_alloc ?_ _)); refine blk_put (cs := #[.int .i64 (wrap64 (Int.tdiv a0 (wrap64 (-t389)))), .int .i64 0]) ?_ 1 _ rfl; (with_reducible repeat (first | refine blk_drewN ?_ _ | refine blk_drew ?_ | refine blk_alloc ?_ _)); refine blk_put (cs := #[.int .i64 0, .int .i64 0]) ?_ 0 _ rfl; (with_reducible repeat (first | refine blk_drewN ?_ _ | refine blk_drew ?_ | refine blk_alloc ?_ _)); exact BK390.out⟩
      have n2_ : Aside0 (Below w.heap.size w ((w10.setCell ⟨gb390, 0, none⟩ (.int .i64 (wrap64 (Int.tdiv a0 (wrap64 (-t389)))))).setCell ⟨gb390, 1, none⟩ (.int .i64 (wrap64 (Int.tdiv a1 (wrap64 (-t389))))))) := ⟨zB⟩
      (try clear BK388)
      (try clear BK390)
      (try clear HB)
      generalize ((w10.setCell ⟨gb390, 0, none⟩ (.int .i64 (wrap64 (Int.tdiv a0 (wrap64 (-t389)))))).setCell ⟨gb390, 1, none⟩ (.int .i64 (wrap64 (Int.tdiv a1 (wrap64 (-t389)))))) = w13 at n0_ n1_ n2_ ⊢
      have BK388 := n0_
      have BK390 := n1_
      have HB := n2_
      clear n0_ n1_ n2_
      replace BK388 := Aside0.mk (blk_drew BK388.out)
      replace BK390 := Aside0.mk (blk_drew BK390.out)
      replace HB := Aside0.mk (below_drew1 HB.out)
      refine start_ (n := 5) (S := fun w' => w'.cell? ⟨gb390, 0, none⟩ = some (.int .i64 (wrap64 (Int.tdiv a0 (wrap64 (-t389))))) ∧ w'.cell? ⟨gb390, 1, none⟩ = some (.int .i64 (wrap64 (Int.tdiv a1 (wrap64 (-t389)))))) (ds := []) #[false, false, false, false, false] (by kernel_rfl) rfl rfl ⟨(blk_cell BK390.out 0).trans rfl, (blk_cell BK390.out 1).trans rfl⟩ (fun hHeld => ?_)
      generalize w13.drew = w14 at BK388 BK390 HB hHeld ⊢
      refine zT 0 hHeld (N := some 22) (h := ?_)
      refine zT 1 hHeld (N := some 23) (h := ?_)
      refine one_ (i := 2) (N := some 24) #[true, true, true, false, false] rfl rfl (by kernel_rfl) (by decide) (fun K hK => ?_)
      refine goes_ Try.func154 (by kernel_rfl) rfl #[.agg #[.int .i64 (wrap64 (Int.tdiv a0 (wrap64 (-t389)))), .int .i64 (wrap64 (Int.tdiv a1 (wrap64 (-t389))))]] (by rfl) rfl rfl zM ?_
      with_reducible refine (impl_IsFraction.calls k (wrap64 (Int.tdiv a0 (wrap64 (-t389)))) (wrap64 (Int.tdiv a1 (wrap64 (-t389)))) t391 _ A6.out).mono ?_
      rintro e w15 ⟨rfl, hb⟩
      refine ⟨_, rfl, ?_⟩
      replace BK388 := Aside0.mk (zW BK388 hb)
      replace BK390 := Aside0.mk (zW BK390 hb)
      replace HB := Aside0.mk (below_step zB hb)
      (try clear hb)
      (try clear hb2)
      (try clear hk)
      (try clear hi)
      refine hK.out _ _ ⟨(blk_cell BK390.out 0).trans rfl, (blk_cell BK390.out 1).trans rfl⟩ (fun hHeld => ?_)
      clear hK K
      refine norm_ (a' := ?_) ?_ ?_
      rotate_left
      · show Act.put _ (some 24) _ = _
        simp only [Act.put, List.setIfInBounds_toArray, List.set_cons_zero, List.set_cons_succ, i64_w, i32_w]
        rfl
      refine one_ (i := 3) (N := none) #[true, true, true, true, false] rfl rfl (by kernel_rfl) (by decide) (fun K hK => ?_)
      have hs16 : w15.cell? ⟨gb388, 0, none⟩ = some (.int .i64 0) := (blk_cell BK388.out 0).trans rfl
      have hfs16 := blk_frozen BK388.out 0
      have hns16_1 := NB390_388.out
      have hms16_1 := NB388_390.out
      have hs17 : w15.cell? ⟨gb388, 1, none⟩ = some (.int .i64 0) := (blk_cell BK388.out 1).trans rfl
      have hfs17 := blk_frozen BK388.out 1
      have hns17_1 := NB390_388.out
      have hms17_1 := NB388_390.out
      refine skip_ (w1 := ?_) (by rfl) rfl ?_ ?_
      rotate_left
      · go_simp
        rfl
      refine hK.out _ _ ⟨((cell_far (p := ⟨gb388, _, none⟩) NB390_388.out _).trans (((cell_far (p := ⟨gb388, _, none⟩) NB390_388.out _).trans (hHeld.1)))), ((cell_far (p := ⟨gb388, _, none⟩) NB390_388.out _).trans (((cell_far (p := ⟨gb388, _, none⟩) NB390_388.out _).trans (hHeld.2))))⟩ (fun hHeld => ?_)
      clear hK K
      refine zP 4 (N := some 5) (h := ?_)
      refine done_ (by kernel_rfl) ?_
      try go_wp2
      refine bodyPost_ret (results_ct rfl _ _ gb388 27 #[.int .i64 (wrap64 (Int.tdiv a0 (wrap64 (-t389)))), .int .i64 (wrap64 (Int.tdiv a1 (wrap64 (-t389))))] (0, 0) _ rfl (by (with_reducible repeat (first | refine blk_drewN ?_ _ | refine blk_drew ?_ | refine blk_alloc ?_ _)); refine blk_put (cs := #[.int .i64 (wrap64 (Int.tdiv a0 (wrap64 (-t389)))), .int .i64 0]) ?_ 1 _ rfl; (with_reducible repeat (first | refine blk_drewN ?_ _ | refine blk_drew ?_ | refine blk_alloc ?_ _)); refine blk_put (cs := #[.int .i64 0, .int .i64 0]) ?_ 0 _ rfl; exact zK) Try.underlying27 rfl (by kernel_rfl)) rfl ?_
      exact ⟨by first | rfl | (simp [errW_none, errW_some] <;> rfl) | (simp [*, errW_none, errW_some] <;> rfl), zB⟩
  · rw [if_neg c4] at H
    have c4b0 : decide (a1 < 0) = false := decide_eq_false c4
    clear c4
    by_cases c18 : t389 = 0
    · rw [if_pos c18] at H
      exact absurd H (by simp)
    · rw [if_neg c18] at H
      have c18b0 : (t389 == 0) = false := beq_eq_false_iff_ne.mpr c18
      have c18b1 : (t389 != 0) = true := bne_iff_ne.mpr c18
      replace H := Option.bind_eq_some_iff.mp H
      obtain ⟨t393, A190, H⟩ := H
      replace H : (some (wrap64 (Int.tdiv a0 t389), wrap64 (Int.tdiv a1 t389), t393)) = some (r1, r2, r3) := H
      have A19 := Aside0.mk A190
      clear A190
      simp only [Option.some.injEq, Prod.mk.injEq] at H
      obtain ⟨rfl, rfl, rfl⟩ := H
      go_enter Try.func159, Try.ntmps159
      try go_wp2_with (first | ((with_reducible refine gate_dst (N := 4) rfl ?_); refine zX 4 (#[.int .i64 0, .int .i64 0]) 27 ?_; intro gb388 hg w20 hbox hb; have BK388 := Aside0.mk (hbox); have GW388 := Aside0.mk (zG : w.heap.size ≤ gb388); have GE388 := Aside0.mk (zG : w.heap.size ≤ gb388); replace HB := Aside0.mk (below_step zB hb); clear hb hbox hg) | ((with_reducible refine gate_callee (f := 158) rfl ?_); refine goesL_ (some 10) rfl rfl Try.func158 (by kernel_rfl) rfl #[.int .i64 a0, .int .i64 a1] rfl zM ?_; (with_reducible refine (impl_common.calls k a0 a1 t389 _ A3.out).mono ?_); rintro e w21 ⟨rfl, hb⟩; refine ⟨_, rfl, ?_⟩; replace BK388 := Aside0.mk (zW BK388 hb); replace HB := Aside0.mk (below_step zB hb); (try clear hb); (try clear hb2); (try clear hk); (try clear hi)))
      replace BK388 := Aside0.mk (blk_drew BK388.out)
      replace HB := Aside0.mk (below_drew1 HB.out)
      refine start_ (n := 9) (S := fun w' => True) (ds := []) #[false, false, false, false, false, false, false, false, false] (by kernel_rfl) rfl rfl trivial (fun hHeld => ?_); refine with_tabW impl_reduced.tab4 impl_reduced.bits4 (fun HT_ HW_ => ?_)
      generalize w21.drew = w22 at BK388 HB hHeld ⊢
      refine zP 0 (N := some 15) (h := ?_)
      refine zP 1 (N := some 16) (h := ?_)
      refine zP 2 (N := some 17) (h := ?_)
      refine zP 3 (N := some 18) (h := ?_)
      refine zP 4 (N := some 19) (h := ?_)
      refine zP 5 (N := some 20) (h := ?_)
      refine zP 6 (N := some 21) (h := ?_)
      refine one_ (i := 7) (N := some 7) #[true, true, true, true, true, true, true, true, false] rfl rfl (one_of HT_.out (by kernel_rfl)) (by decide) (fun K hK => ?_)
      refine box_step ?hg (N := 7) ?hd (cs := #[.int .i64 0, .int .i64 0]) (t := 27) ?hr ?_; (case hd => rfl); (case hg => rfl); (case hr => first | (go_simp; done) | (go_simp; rfl))
      intro gb392 hg w23 hbox hb
      have BK392 := Aside0.mk (hbox)
      have GW392 := Aside0.mk (zG : w.heap.size ≤ gb392)
      have GE392 := Aside0.mk (zG : w.heap.size ≤ gb392)
      have NB388_392 := Aside0.mk (zU BK388 hg)
      have NB392_388 := Aside0.mk (zV BK388 hg)
      replace BK388 := Aside0.mk (zW BK388 hb)
      replace HB := Aside0.mk (below_step zB hb)
      clear hb hbox hg
      refine hK.out _ _ trivial (fun hHeld => ?_)
      clear hK K
      refine norm_ (a' := ?_) ?_ ?_
      rotate_left
      · show Act.put _ (some 7) _ = _
        simp only [Act.put, List.setIfInBounds_toArray, List.set_cons_zero, List.set_cons_succ, i64_w, i32_w]
        rfl
      refine one_ (i := 8) (N := none) #[true, true, true, true, true, true, true, true, true] rfl rfl (one_of HT_.out (by kernel_rfl)) (by decide) (fun K hK => ?_)
      have hs24 : w23.cell? ⟨gb392, 0, none⟩ = some (.int .i64 0) := (blk_cell BK392.out 0).trans rfl
      have hfs24 := blk_frozen BK392.out 0
      have hns24_0 := NB388_392.out
      have hms24_0 := NB392_388.out
      have hs25 : w23.cell? ⟨gb392, 1, none⟩ = some (.int .i64 0) := (blk_cell BK392.out 1).trans rfl
      have hfs25 := blk_frozen BK392.out 1
      have hns25_0 := NB388_392.out
      have hms25_0 := NB392_388.out
      refine skip_ (w1 := ?_) (by rfl) rfl ?_ ?_
      rotate_left
      · go_simp
        rfl
      refine hK.out _ _ trivial (fun hHeld => ?_)
      clear hK K
      refine done_ (done_of HT_.out (by kernel_rfl)) ?_
      try go_wp2
      have n0_ : Aside0 (((w23.setCell ⟨gb392, 0, none⟩ (.int .i64 (wrap64 (Int.tdiv a0 t389)))).setCell ⟨gb392, 1, none⟩ (.int .i64 (wrap64 (Int.tdiv a1 t389)))).heap[gb388]? = some (.cells #[.int .i64 0, .int .i64 0] 27 (0, 0))) := ⟨by (with_reducible repeat (first | refine blk_drewN ?_ _ | refine blk_drew ?_ | refine blk_alloc ?_ _)); refine blk_far ?_ NB388_392.out _; (with_reducible repeat (first | refine blk_drewN ?_ _ | refine blk_drew ?_ | refine blk_alloc ?_ _)); refine blk_far ?_ NB388_392.out _; (with_reducible repeat (first | refine blk_drewN ?_ _ | refine blk_drew ?_ | refine blk_alloc ?_ _)); exact BK388.out⟩
      have n1_ : Aside0 (((w23.setCell ⟨gb392, 0, none⟩ (.int .i64 (wrap64 (Int.tdiv a0 t389)))).setCell ⟨gb392, 1, none⟩ (.int .i64 (wrap64 (Int.tdiv a1 t389)))).heap[gb392]? = some (.cells #[.int .i64 (wrap64 (Int.tdiv a0 t389)), .int .i64 (wrap64 (Int.tdiv a1 t389))] 27 (0, 0))) := ⟨by (with_reducible repeat (first | refine blk_drewN ?_ _ | refine blk_drew ?_ | refine blk_alloc ?_ _)); refine blk_put (cs := #[.int .i64 (wrap64 (Int.tdiv a0 t389)), .int .i64 0]) ?_ 1 _ rfl; (with_reducible repeat (first | refine blk_drewN ?_ _ | refine blk_drew ?_ | refine blk_alloc ?_ _)); refine blk_put (cs := #[.int .i64 0, .int .i64 0]) ?_ 0 _ rfl; (with_reducible repeat (first | refine blk_drewN ?_ _ | refine blk_drew ?_ | refine blk_alloc ?_ _)); exact BK392.out⟩
      have n2_ : Aside0 (Below w.heap.size w ((w23.setCell ⟨gb392, 0, none⟩ (.int .i64 (wrap64 (Int.tdiv a0 t389)))).setCell ⟨gb392, 1, none⟩ (.int .i64 (wrap64 (Int.tdiv a1 t389))))) := ⟨zB⟩
      (try clear BK388)
      (try clear BK392)
      (try clear HB)
      generalize ((w23.setCell ⟨gb392, 0, none⟩ (.int .i64 (wrap64 (Int.tdiv a0 t389)))).setCell ⟨gb392, 1, none⟩ (.int .i64 (wrap64 (Int.tdiv a1 t389)))) = w26 at n0_ n1_ n2_ ⊢
      have BK388 := n0_
      have BK392 := n1_
      have HB := n2_
      clear n0_ n1_ n2_
      replace BK388 := Aside0.mk (blk_drew BK388.out)
      replace BK392 := Aside0.mk (blk_drew BK392.out)
      replace HB := Aside0.mk (below_drew1 HB.out)
      refine start_ (n := 5) (S := fun w' => w'.cell? ⟨gb392, 0, none⟩ = some (.int .i64 (wrap64 (Int.tdiv a0 t389))) ∧ w'.cell? ⟨gb392, 1, none⟩ = some (.int .i64 (wrap64 (Int.tdiv a1 t389)))) (ds := []) #[false, false, false, false, false] (by kernel_rfl) rfl rfl ⟨(blk_cell BK392.out 0).trans rfl, (blk_cell BK392.out 1).trans rfl⟩ (fun hHeld => ?_)
      generalize w26.drew = w27 at BK388 BK392 HB hHeld ⊢
      refine zT 0 hHeld (N := some 22) (h := ?_)
      refine zT 1 hHeld (N := some 23) (h := ?_)
      refine one_ (i := 2) (N := some 24) #[true, true, true, false, false] rfl rfl (by kernel_rfl) (by decide) (fun K hK => ?_)
      refine goes_ Try.func154 (by kernel_rfl) rfl #[.agg #[.int .i64 (wrap64 (Int.tdiv a0 t389)), .int .i64 (wrap64 (Int.tdiv a1 t389))]] (by rfl) rfl rfl zM ?_
      with_reducible refine (impl_IsFraction.calls k (wrap64 (Int.tdiv a0 t389)) (wrap64 (Int.tdiv a1 t389)) t393 _ A19.out).mono ?_
      rintro e w28 ⟨rfl, hb⟩
      refine ⟨_, rfl, ?_⟩
      replace BK388 := Aside0.mk (zW BK388 hb)
      replace BK392 := Aside0.mk (zW BK392 hb)
      replace HB := Aside0.mk (below_step zB hb)
      (try clear hb)
      (try clear hb2)
      (try clear hk)
      (try clear hi)
      refine hK.out _ _ ⟨(blk_cell BK392.out 0).trans rfl, (blk_cell BK392.out 1).trans rfl⟩ (fun hHeld => ?_)
      clear hK K
      refine norm_ (a' := ?_) ?_ ?_
      rotate_left
      · show Act.put _ (some 24) _ = _
        simp only [Act.put, List.setIfInBounds_toArray, List.set_cons_zero, List.set_cons_succ, i64_w, i32_w]
        rfl
      refine one_ (i := 3) (N := none) #[true, true, true, true, false] rfl rfl (by kernel_rfl) (by decide) (fun K hK => ?_)
      have hs29 : w28.cell? ⟨gb388, 0, none⟩ = some (.int .i64 0) := (blk_cell BK388.out 0).trans rfl
      have hfs29 := blk_frozen BK388.out 0
      have hns29_1 := NB392_388.out
      have hms29_1 := NB388_392.out
      have hs30 : w28.cell? ⟨gb388, 1, none⟩ = some (.int .i64 0) := (blk_cell BK388.out 1).trans rfl
      have hfs30 := blk_frozen BK388.out 1
      have hns30_1 := NB392_388.out
      have hms30_1 := NB388_392.out
      refine skip_ (w1 := ?_) (by rfl) rfl ?_ ?_
      rotate_left
      · go_simp
        rfl
      refine hK.out _ _ ⟨((cell_far (p := ⟨gb388, _, none⟩) NB392_388.out _).trans (((cell_far (p := ⟨gb388, _, none⟩) NB392_388.out _).trans (hHeld.1)))), ((cell_far (p := ⟨gb388, _, none⟩) NB392_388.out _).trans (((cell_far (p := ⟨gb388, _, none⟩) NB392_388.out _).trans (hHeld.2))))⟩ (fun hHeld => ?_)
      clear hK K
      refine zP 4 (N := some 5) (h := ?_)
      refine done_ (by kernel_rfl) ?_
      try go_wp2
      refine bodyPost_ret (results_ct rfl _ _ gb388 27 #[.int .i64 (wrap64 (Int.tdiv a0 t389)), .int .i64 (wrap64 (Int.tdiv a1 t389))] (0, 0) _ rfl (by (with_reducible repeat (first | refine blk_drewN ?_ _ | refine blk_drew ?_ | refine blk_alloc ?_ _)); refine blk_put (cs := #[.int .i64 (wrap64 (Int.tdiv a0 t389)), .int .i64 0]) ?_ 1 _ rfl; (with_reducible repeat (first | refine blk_drewN ?_ _ | refine blk_drew ?_ | refine blk_alloc ?_ _)); refine blk_put (cs := #[.int .i64 0, .int .i64 0]) ?_ 0 _ rfl; exact zK) Try.underlying27 rfl (by kernel_rfl)) rfl ?_
      exact ⟨by first | rfl | (simp [errW_none, errW_some] <;> rfl) | (simp [*, errW_none, errW_some] <;> rfl), zB⟩

end Go.Proofs.Ytcklefgkbddlhaa.P
