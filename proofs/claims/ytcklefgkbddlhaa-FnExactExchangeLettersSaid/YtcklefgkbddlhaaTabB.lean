/- slices.Repeat of one fraction: what a call of it comes to. -/
import Derived.Test.YtcklefgkbddlhaaTabA
import Derived.Laws.Bits64
namespace Go.Proofs.Ytcklefgkbddlhaa.Tab
open Go.RowKit Go.Proofs.Ytcklefgkbddlhaa.P Go.Proofs.YtcklefgkbddlhaaW.PrintWords Go.Proofs.YtcklefgkbddlhaaW.PrintLast Go.Proofs.YtcklefgkbddlhaaW.PrintMore
set_option linter.unusedVariables false
set_option linter.unusedSimpArgs false

theorem infoF : (Try.prog.info? 27).map (fun i => (i.zero, i.size, i.bytes)) = some (some (.agg #[.int .i64 0, .int .i64 0]), 2, 16) := by kernel_rfl
theorem mask32 (x : Int) (h0 : 0 ≤ x) (h1 : x < 1000000) : Go.bits .and .u64 x 4294967295 = x := by
  have h := bits_mask .u64 63 (by decide) (fun n h₀ h₁ => by rw [IntKind.wrap_u64]; omega) 32 (by decide) x h0 (by omega)
  have e : ((2 : Int) ^ 32 - 1) = 4294967295 := by decide
  have e2 : ((2 : Int) ^ 32) = 4294967296 := by decide
  rw [e, e2] at h
  rw [h]
  omega
theorem mul_one (n : Nat) (h : n ≤ 1000) : bits_Mul.f 1 (n : Int) = some (0, (n : Int)) := by
  unfold bits_Mul.f bits_Mul64.f
  simp only [Option.bind_some]
  rw [mask32 1 (by decide) (by decide), mask32 (n : Int) (by omega) (by omega)]
  have e0 : (1 : Int) / 4294967296 = 0 := by decide
  have e1 : (n : Int) / 4294967296 = 0 := by omega
  have e2 : ∀ x : Int, 0 ≤ x → x < 1000000 → IntKind.u64.wrap x = x := fun x h0 h1 => by rw [IntKind.wrap_u64]; omega
  have e3 : IntKind.u64.wrap 0 = 0 := e2 0 (by decide) (by decide)
  rw [e0, e1, Int.zero_mul, Int.zero_mul, Int.one_mul, Int.mul_zero, e3, e2 (n : Int) (by omega) (by omega), e1, Int.add_zero, e3, Int.add_zero, mask32 0 (by decide) (by decide)]
  simp [e3]
/-- The cells of many equal fractions. -/
def flat (a b : Int) : Nat → List Value
  | 0 => []
  | m + 1 => .int .i64 a :: .int .i64 b :: flat a b m
theorem flat_length (a b : Int) : ∀ m, (flat a b m).length = m * 2
  | 0 => rfl
  | m + 1 => by rw [flat, List.length_cons, List.length_cons, flat_length a b m]; omega
theorem flat_at (a b : Int) : ∀ m j v, (flat a b m)[j]? = some v → v = (if j % 2 = 0 then .int .i64 a else .int .i64 b)
  | 0, j, v, h => by simp [flat] at h
  | m + 1, 0, v, h => by simp [flat] at h; simp [h]
  | m + 1, 1, v, h => by simp [flat] at h; simp [h]
  | m + 1, j + 2, v, h => by
    have := flat_at a b m j v (by simpa [flat] using h)
    rw [this, show (j + 2) % 2 = j % 2 by omega]
theorem flat_one (a b : Int) (m : Nat) : ∀ v ∈ flat a b m, v.oneCell' = true := by
  intro v hv
  obtain ⟨j, hj, rfl⟩ := List.getElem_of_mem hv
  have := flat_at a b m j _ (List.getElem?_eq_getElem hj)
  rw [this]
  split <;> rfl
section
variable {base g n cap : Nat} {w0 : World} (a b : Int)
theorem fills : ∀ m o (w : World) (x : List S27), Kd.R k27 27 w base (fun _ => True) (.slice (some ⟨g, 0, none⟩) n cap) x → Below w0.heap.size w0 w → w0.heap.size ≤ g → o + m ≤ x.length →
    Kd.R k27 27 (w.setCells g (o * 2) (flat a b m)) base (fun _ => True) (.slice (some ⟨g, 0, none⟩) n cap) (x.take o ++ List.replicate m ⟨a, b⟩ ++ x.drop (o + m)) ∧ Below w0.heap.size w0 (w.setCells g (o * 2) (flat a b m))
  | 0, o, w, x, h, hb, _, _ => ⟨by simp only [List.replicate_zero, flat, World.setCells, List.append_nil, Nat.add_zero, List.take_append_drop]; exact h, hb⟩
  | m + 1, o, w, x, h, hb, hg, hl => by
    have hnx := (Kd.R_reads' h).1
    obtain ⟨c, hcl, hM, hc, hf⟩ := Kd.R_elem h z27 (o : Int) (by omega) (by omega)
    have hs := (Kd.R_seg h (o : Int) (by omega) (by omega) (seg := [.int .i64 a, .int .i64 b]) (j := 0) hcl hc (show 2 ≤ 2 from Nat.le_refl _) (x' := ⟨a, b⟩) (okp := fun _ => False) (by
      have e : List.take 0 c ++ [Value.int .i64 a, .int .i64 b] ++ List.drop (0 + [Value.int .i64 a, .int .i64 b].length) c = [.int .i64 a, .int .i64 b] := by
        rw [List.drop_of_length_le (by rw [hcl]; exact (show 2 ≤ 2 from Nat.le_refl _))]
        rfl
      rw [e]
      exact k27_mkM _ _ _ ⟨a, b⟩) (fun _ hk => hk.elim)).1
    rw [Int.toNat_natCast] at hs
    obtain ⟨p, q⟩ := fills m (o + 1) _ (x.set o ⟨a, b⟩) hs (below_set (below_set hb hg) hg) hg (by rw [List.length_set]; omega)
    have e : (x.set o ⟨a, b⟩).take (o + 1) ++ List.replicate m ⟨a, b⟩ ++ (x.set o ⟨a, b⟩).drop (o + 1 + m) = x.take o ++ List.replicate (m + 1) ⟨a, b⟩ ++ x.drop (o + (m + 1)) := by
      rw [List.take_succ_eq_append_getElem (by rw [List.length_set]; omega), List.take_set_of_le (Nat.le_refl _), List.getElem_set_self, List.drop_set_of_lt (by omega), show o + 1 + m = o + (m + 1) from by omega, List.replicate_succ]
      simp
    rw [e] at p
    have e2 : (w.setCells g (o * 2) (flat a b (m + 1))) = ((w.setCells g (o * 2 + 0) [.int .i64 a, .int .i64 b]).setCells g ((o + 1) * 2) (flat a b m)) := by
      simp only [flat, World.setCells]
      rw [show (o + 1) * 2 = o * 2 + 1 + 1 from by omega]
      rfl
    rw [e2]
    exact ⟨p, q⟩
end
theorem frozen_of {base g n cap : Nat} {ok : Nat → Prop} {x : List S27} {w : World} (h : Kd.R k27 27 w base ok (.slice (some ⟨g, 0, none⟩) n cap) x) (j : Nat) : w.frozen? ⟨g, j, none⟩ = false := by
  obtain ⟨inner, ho⟩ := Kd.R_own h
  obtain ⟨cells, hcc⟩ := own_typed ho g (by simp [Value.ownBlock])
  exact blk_frozen hcc j
theorem cell_of {base g n cap : Nat} {ok : Nat → Prop} {x : List S27} {w : World} (h : Kd.R k27 27 w base ok (.slice (some ⟨g, 0, none⟩) n cap) x) (j : Nat) (hj : j < n * 2) : w.cell? ⟨g, j, none⟩ = some (if j % 2 = 0 then .int .i64 (rd_T27 x ((j / 2 : Nat) : Int)).f0 else .int .i64 (rd_T27 x ((j / 2 : Nat) : Int)).f1) := by
  obtain ⟨c, hcl, hM, hc, hf⟩ := Kd.R_elem h z27 ((j / 2 : Nat) : Int) (by omega) (by omega)
  obtain rfl := k27_openM hM
  rw [Int.toNat_natCast] at hc
  by_cases h2 : j % 2 = 0
  · rw [if_pos h2]
    have := hc 0 _ rfl
    rw [show j / 2 * k27.sz + 0 = j from by show j / 2 * 2 + 0 = j; omega] at this
    exact this
  · rw [if_neg h2]
    have := hc 1 _ rfl
    rw [show j / 2 * k27.sz + 1 = j from by show j / 2 * 2 + 1 = j; omega] at this
    exact this
theorem copy_first (a b : Int) (n cap c g : Nat) (ad : Addr) (base : Nat) (w : World) (ty : TypeId) (h1 : 1 ≤ n) {ok : Nat → Prop} {x : List S27} (h : Kd.R k27 27 w base ok (.slice (some ⟨g, 0, none⟩) n cap) x) (hx : w.cell? ad = some (.int .i64 a)) (hy : w.cell? (ad.add 1) = some (.int .i64 b)) :
    (Builtin.copy_ #[77, 77] ty #[.slice (some ⟨g, 0, none⟩) n cap, .slice (some ad) 1 c]).run Try.prog w = .ok (.int .i64 1) (w.setCells g 0 (flat a b 1)) := by
  have hm : Nat.min 1 n = 1 := Nat.min_eq_left h1
  have := run_copy_sized (P := Try.prog) w 77 77 ty 27 g 0 n cap ad 1 c 2 (flat a b 1) Try.underlying77 (by simpa using congrArg (fun o => o.map (fun q => q.2.1)) infoF) (by rw [hm]; rfl) (by
      intro j v hj
      match j, hj with
      | 0, hj => (obtain rfl : (Value.int .i64 a) = v := by simpa [flat] using hj); rw [Addr.add_zero']; exact hx
      | 1, hj => (obtain rfl : (Value.int .i64 b) = v := by simpa [flat] using hj); exact hy) (by
      intro j hj
      rw [Nat.zero_add, cell_of h j (by rw [flat_length] at hj; omega)]
      rfl) (by intro j hj; exact frozen_of h _) (flat_one a b 1)
  rw [hm] at this
  exact this
set_option maxHeartbeats 8000000 in
set_option maxRecDepth 100000 in
theorem repeat_one (a b : Int) (n : Nat) (h1 : 1 ≤ n) (h13 : n ≤ 1000) (ad : Addr) (c : Nat) (w : World) (hx : w.cell? ad = some (.int .i64 a)) (hy : w.cell? (ad.add 1) = some (.int .i64 b)) :
    Calls Try.prog 130 #[.slice (some ad) 1 c, .int .i64 n] w fun e w' => ∃ v : Value, e = .returned v ∧ Kd.R k27 27 w' w.heap.size (fun _ => True) v (List.replicate n ⟨a, b⟩) ∧ Below w.heap.size w w' := by
  have hu64 : IntKind.u64.wrap (n : Int) = n := by simp only [IntKind.wrap_u64]; omega
  have hi64 : IntKind.i64.wrap (n : Int) = n := by simp only [IntKind.wrap_i64]; omega
  have b0 : decide ((n : Int) < 0) = false := decide_eq_false (by omega)
  have b1 : decide ((9223372036854775807 : Int) < (n : Int)) = false := decide_eq_false (by omega)
  have HM := Aside0.mk (mul_one n h13)
  have H1 := Aside0.mk h1
  have H13 := Aside0.mk h13
  have HX := Aside0.mk hx
  have HY := Aside0.mk hy
  clear hx hy
  go_enter Try.func130, Try.ntmps130
  go_wp2_with (first | (go_at_call 163; refine (bits_Mul.calls 1 n 0 n _ HM.out).mono ?_; rintro e w' ⟨rfl, nd, rfl⟩) | ((with_reducible refine gate_dst (N := 30) rfl ?_); (refine Kd.R_make k27 _ 27 rfl (N := 30) rfl 77 _ _ rfl (n : Int) rfl rfl Try.underlying77 (.agg #[.int .i64 0, .int .i64 0]) 16 infoF rfl (by decide) (by omega) z27 (ok := fun _ => True) (okp := fun _ => True) (k27_mkM _ _ _ z27) (fun _ hk => hk) trivial (by omega) (by rw [Int.toNat_natCast]; omega) (Below.refl _ _) (Nat.le_refl _) ?_; intro v30 w7 ho5 hb hg_ hnew_; clear hg_ hnew_; obtain ⟨g, cap, ev, hgb, hgl, hcc⟩ := Kd.R_form ho5 (by rw [List.length_replicate, Int.toNat_natCast]; exact H1.out); rw [List.length_replicate, Int.toNat_natCast] at ev; subst ev; have hnc := (Kd.R_reads' ho5).2.1; rw [Int.toNat_natCast] at ho5; have HN := Aside0.mk ho5; have HB := Aside0.mk (below_step (pw_below_drewN (Below.refl w.heap.size w) nd) hb); have HG := Aside0.mk (show w.heap.size ≤ g from hgb); have HNC := Aside0.mk hnc; have hx7 := (hb.cell (World.block_lt_of_cell? _ _ HX.out)).trans HX.out; have hy7 := (hb.cell (World.block_lt_of_cell? _ _ HY.out)).trans HY.out; have hcp : ∀ (W : World) (ty : TypeId), W = w7 → (Builtin.copy_ #[77, 77] ty #[.slice (some ⟨g, 0, none⟩) n cap, .slice (some ad) 1 c]).run Try.prog W = .ok (.int .i64 1) (w7.setCells g 0 (flat a b 1)) := (by rintro W ty rfl; exact copy_first a b n cap c g ad _ W ty H1.out HN.out hx7 hy7); clear hgl hcc ho5 hb hx7 hy7)))
  go_loopg [8] n (fun gg s8 wr => ∃ m : Nat, 1 ≤ m ∧ m ≤ n ∧ n - m ≤ gg ∧ s8 = .int .i64 m ∧ Aside0 (Kd.R k27 27 wr w.heap.size (fun _ => True) (.slice (some ⟨g, 0, none⟩) n cap) (List.replicate m ⟨a, b⟩ ++ List.replicate (n - m) z27)) ∧ Aside0 (Below w.heap.size w wr))
  case atStart =>
    obtain ⟨p, q⟩ := fills a b 1 0 w7 _ HN.out HB.out HG.out (by rw [List.length_replicate]; exact H1.out)
    refine ⟨1, Nat.le_refl _, H1.out, by omega, rfl, ⟨?_⟩, ⟨q⟩⟩
    rw [List.take_zero, List.nil_append, List.drop_replicate, Nat.zero_add] at p
    exact p
  case round =>
    clear HN HB
    obtain ⟨m, hm1, hmn, hgg, rfl, HR, HBB⟩ := hrel
    by_cases hlt : m < n
    · have hltz : (m : Int) < (n : Int) := by omega
      obtain ⟨q, hq⟩ : ∃ q, Nat.min m (n - m) = q := ⟨_, rfl⟩
      have hq1 : q ≤ m := by rw [← hq]; exact Nat.min_le_left _ _
      have hq2 : q ≤ n - m := by rw [← hq]; exact Nat.min_le_right _ _
      have hq0 : 0 < q := by rw [← hq]; exact Nat.lt_min.2 ⟨by omega, by omega⟩
      have hcap := HNC.out
      have hlen : (List.replicate m (⟨a, b⟩ : S27) ++ List.replicate (n - m) z27).length = n := by rw [List.length_append, List.length_replicate, List.length_replicate]; omega
      have HRd := Aside0.mk (Kd.R_drew HR.out)
      have hcp : ∀ (W : World) (ty : TypeId), W = wr.drew → (Builtin.copy_ #[77, 77] ty #[.slice (some ⟨g, m * 2, none⟩) (n - m) (cap - m), .slice (some ⟨g, 0, none⟩) m cap]).run Try.prog W = .ok (.int .i64 q) (wr.drew.setCells g (m * 2) (flat a b q)) := by
        rintro W ty rfl
        have := run_copy_sized (P := Try.prog) wr.drew 77 77 ty 27 g (m * 2) (n - m) (cap - m) ⟨g, 0, none⟩ m cap 2 (flat a b q) Try.underlying77 (by simpa using congrArg (fun o => o.map (fun q => q.2.1)) infoF) (by rw [flat_length, hq]) (by
          intro j v hj
          have hjl := (List.getElem?_eq_some_iff.1 hj).1
          rw [flat_length] at hjl
          have hv := flat_at a b q j v hj
          rw [add_at, Nat.zero_add, cell_of HRd.out j (by omega), hv]
          have e : rd_T27 (List.replicate m (⟨a, b⟩ : S27) ++ List.replicate (n - m) z27) ((j / 2 : Nat) : Int) = ⟨a, b⟩ := by
            have hjm : j / 2 < m := by omega
            unfold rd_T27
            rw [Int.toNat_natCast, List.getD_eq_getElem?_getD, List.getElem?_append_left (by rw [List.length_replicate]; exact hjm), List.getElem?_replicate, if_pos hjm]
            rfl
          rw [e]) (by
          intro j hj
          rw [flat_length] at hj
          rw [cell_of HRd.out (m * 2 + j) (by omega)]
          rfl) (by intro j hj; exact frozen_of HRd.out _) (flat_one a b q)
        rw [hq] at this
        exact this
      have HZ := Aside0.mk (fills a b q m wr.drew _ HRd.out (below_drew1 HBB.out) HG.out (by rw [hlen]; omega))
      have pm : (0 ≤ (m : Int)) = True := eq_true (by omega)
      have qm : ((m : Int) ≤ (n : Int)) = True := eq_true (by omega)
      have qm1 : (m ≤ n) = True := eq_true hmn
      have qm2 : ((m : Int) ≤ (cap : Int)) = True := eq_true (by omega)
      have qm3 : (m ≤ cap) = True := eq_true (by omega)
      have qm4 : (cap = m) = False := eq_false (by omega)
      have qm5 : (m = cap) = False := eq_false (by omega)
      clear hlen
      go_wp2
      go_region
      all_goals go_wp2
      go_roundg (n - (m + q))
      case measure => omega
      case rel =>
        refine ⟨m + q, by omega, by omega, by omega, ?_, ⟨?_⟩, ⟨HZ.out.2⟩⟩
        · congr 1
        · have h := HZ.out.1
          have e1 : (List.replicate m (⟨a, b⟩ : S27) ++ List.replicate (n - m) z27).take m = List.replicate m ⟨a, b⟩ := by
            rw [List.take_left' (by rw [List.length_replicate])]
          have e2 : (List.replicate m (⟨a, b⟩ : S27) ++ List.replicate (n - m) z27).drop (m + q) = List.replicate (n - (m + q)) z27 := by
            rw [← List.drop_drop, List.drop_left' (by rw [List.length_replicate]), List.drop_replicate]
            congr 1
            omega
          rw [e1, e2, ← List.replicate_append_replicate.symm] at h
          exact h
    · have hltz : ¬ (m : Int) < (n : Int) := by omega
      obtain rfl : m = n := by omega
      go_wp2
      go_ret
      refine ⟨_, rfl, ?_, HBB.out⟩
      have := HR.out
      rwa [Nat.sub_self, List.replicate_zero, List.append_nil] at this
end Go.Proofs.Ytcklefgkbddlhaa.Tab
