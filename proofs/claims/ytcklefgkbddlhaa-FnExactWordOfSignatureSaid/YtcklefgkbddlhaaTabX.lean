/- Plain lemmas and contracts of this session, of which the parts' own heads tell. -/
import Derived.Test.YtcklefgkbddlhaaPx12
import Derived.Test.YtcklefgkbddlhaaPx13
import Derived.Laws.IdiomCopy
import Derived.Laws.Bits64
import Derived.Test.YtcklefgkbddlhaaPx14
import Derived.Test.YtcklefgkbddlhaaPx15
/- Tables of the program: a pointer to a struct with a row of fractions. How they lie in memory, and what slices.Repeat makes of one fraction. -/
namespace Go.Proofs.Ytcklefgkbddlhaa.Tab
open Go.RowKit Go.Proofs.Ytcklefgkbddlhaa.P Go.Proofs.YtcklefgkbddlhaaW.PrintWords Go.Proofs.YtcklefgkbddlhaaW.PrintLast Go.Proofs.YtcklefgkbddlhaaW.PrintMore
set_option linter.unusedVariables false
set_option linter.unusedSimpArgs false

theorem run_copy_sized {P : Program} (w : World) (dT sT ty elem : TypeId) (b o dLen dCap : Nat) (a : Addr) (sLen sCap q : Nat) (cs : List Value)
    (hu : P.underlying dT = some (.slice elem)) (hs : (P.info? elem).map (·.size) = some q) (hn : cs.length = Nat.min sLen dLen * q)
    (hsrc : ∀ j v, cs[j]? = some v → w.cell? (a.add j) = some v) (hc : ∀ j, j < cs.length → (w.cell? ⟨b, o + j, none⟩).isSome = true) (hf : ∀ j, j < cs.length → w.frozen? ⟨b, o + j, none⟩ = false) (h1 : ∀ v ∈ cs, v.oneCell' = true) :
    (Builtin.copy_ #[dT, sT] ty #[.slice (some ⟨b, o, none⟩) dLen dCap, .slice (some a) sLen sCap]).run P w = .ok (goInt (Nat.min sLen dLen)) (w.setCells b o cs) := by
  have hl := run_loadCells_list (P := P) w a cs hsrc
  have hst := run_storeCells_cells (P := P) b o cs 0 w (by simpa using hc) (by simpa using hf) h1
  cases hq : P.info? elem with
  | none => simp [hq] at hs
  | some i =>
    have hi : i.size = q := by simpa [hq] using hs
    simp [Builtin.copy_, run_underlying hu, Builtin.lenOf, Builtin.firstCells, sizeOf, typeInfo, hq, hi, ← hn, hl, hst]
/-- A table at block B; its values lie in block g. -/
structure Tab (w : World) (base B g cap : Nat) (d n : Int) (vs : List S27) (bad : Bool) : Prop where
  head : w.heap[B]? = some (.cells #[.int .i64 d, .int .i64 n, .slice (some ⟨g, 0, none⟩) vs.length cap, .bool bad] 147 (0, 0))
  row : Kd.R k27 27 w base (fun k => k = g) (.slice (some ⟨g, 0, none⟩) vs.length cap) vs
  hB : base ≤ B
  ne : B ≠ g
section
variable {w w1 : World} {base B g cap : Nat} {d n : Int} {vs : List S27} {bad : Bool}
theorem Tab.ltB (h : Tab w base B g cap d n vs bad) : B < w.heap.size := (Array.getElem?_eq_some_iff.1 h.head).1
theorem Tab.lt (h : Tab w base B g cap d n vs bad) : g < w.heap.size := by
  obtain ⟨_, hr, _⟩ := h.row
  have := Kd.R_bound h.row
  obtain ⟨inner, ho⟩ := Kd.R_own h.row
  exact own_lt ho g (by simp [Value.ownBlock])
theorem Tab.hg (h : Tab w base B g cap d n vs bad) : base ≤ g := by
  obtain ⟨inner, ho⟩ := Kd.R_own h.row
  exact own_base ho g (by simp [Value.ownBlock])
theorem Tab.move (h : Tab w base B g cap d n vs bad) (hm : ∀ k, k = B ∨ k = g → w1.heap[k]? = w.heap[k]?) : Tab w1 base B g cap d n vs bad :=
  ⟨(hm B (.inl rfl)).trans h.head, Kd.R_move h.row (fun k hk => hm k (.inr hk)), h.hB, h.ne⟩
theorem Tab.below (h : Tab w base B g cap d n vs bad) (hb : Below w.heap.size w w1) : Tab w1 base B g cap d n vs bad :=
  h.move (fun k hk => hb.block k (by rcases hk with rfl | rfl; exact h.ltB; exact h.lt))
theorem Tab.lower {base' : Nat} (h : Tab w base B g cap d n vs bad) (hb : base' ≤ base) : Tab w base' B g cap d n vs bad :=
  ⟨h.head, Kd.R_lower h.row hb, Nat.le_trans hb h.hB, h.ne⟩
theorem Tab.cells (h : Tab w base B g cap d n vs bad) : w.cell? ⟨B, 0, none⟩ = some (.int .i64 d) ∧ w.cell? ⟨B, 1, none⟩ = some (.int .i64 n) ∧ w.cell? ⟨B, 2, none⟩ = some (.slice (some ⟨g, 0, none⟩) vs.length cap) ∧ w.cell? ⟨B, 3, none⟩ = some (.bool bad) := by
  refine ⟨?_, ?_, ?_, ?_⟩ <;> simp [World.cell?, h.head]
theorem Tab.frozen (h : Tab w base B g cap d n vs bad) (j : Nat) : w.frozen? ⟨B, j, none⟩ = false := by simp [World.frozen?, h.head]
theorem Tab.val (h : Tab w base B g cap d n vs bad) (i : Int) (h0 : 0 ≤ i) (h1 : i < vs.length) :
    w.cell? ⟨g, i.toNat * 2, none⟩ = some (.int .i64 (rd_T27 vs i).f0) ∧ w.cell? ⟨g, i.toNat * 2 + 1, none⟩ = some (.int .i64 (rd_T27 vs i).f1) ∧ (∀ j, w.frozen? ⟨g, j, none⟩ = false) := by
  obtain ⟨c, hl, hM, hc, hf⟩ := Kd.R_elem h.row z27 i h0 h1
  obtain rfl := k27_openM hM
  obtain ⟨inner, ho⟩ := Kd.R_own h.row
  obtain ⟨cells, hcc⟩ := own_typed ho g (by simp [Value.ownBlock])
  exact ⟨hc 0 _ rfl, hc 1 _ rfl, fun j => blk_frozen hcc j⟩
/-- A value is written. -/
theorem Tab.put (h : Tab w base B g cap d n vs bad) (i : Int) (h0 : 0 ≤ i) (h1 : i < vs.length) (a b : Int) :
    Tab ((w.setCell ⟨g, i.toNat * 2, none⟩ (.int .i64 a)).setCell ⟨g, i.toNat * 2 + 1, none⟩ (.int .i64 b)) base B g cap d n (vs.set i.toNat ⟨a, b⟩) bad := by
  obtain ⟨c, hl, hM, hc, hf⟩ := Kd.R_elem h.row z27 i h0 h1
  have hs := Kd.R_seg h.row i h0 h1 (seg := [.int .i64 a, .int .i64 b]) (j := 0) hl hc (show 2 ≤ 2 from Nat.le_refl _) (x' := ⟨a, b⟩) (okp := fun _ => False) (by
    have e : List.take 0 c ++ [Value.int .i64 a, .int .i64 b] ++ List.drop (0 + [Value.int .i64 a, .int .i64 b].length) c = [.int .i64 a, .int .i64 b] := by
      rw [List.drop_of_length_le (by rw [hl]; exact (show 2 ≤ 2 from Nat.le_refl _))]
      rfl
    rw [e]
    exact k27_mkM _ _ _ ⟨a, b⟩) (fun _ hk => hk.elim)
  refine ⟨?_, ?_, h.hB, h.ne⟩
  · rw [List.length_set]
    exact (Below.heap_setCell _ ⟨g, _, none⟩ _ B h.ne).trans ((Below.heap_setCell w ⟨g, _, none⟩ _ B h.ne).trans h.head)
  · rw [List.length_set]
    exact hs.1
/-- The mark that something has not fitted. -/
theorem Tab.mark (h : Tab w base B g cap d n vs bad) (b : Bool) : Tab (w.setCell ⟨B, 3, none⟩ (.bool b)) base B g cap d n vs b := by
  refine ⟨?_, Kd.R_move h.row (fun k hk => Below.heap_setCell w ⟨B, 3, none⟩ _ k (by rw [hk]; exact Ne.symm h.ne)), h.hB, h.ne⟩
  exact blk_put h.head 3 (.bool b) rfl
end
theorem infoF : (Try.prog.info? 27).map (fun i => (i.zero, i.size, i.bytes)) = some (some (.agg #[.int .i64 0, .int .i64 0]), 2, 16) := by kernel_rfl
theorem mask32 (x : Int) (h0 : 0 ≤ x) (h1 : x < 1000000) : Go.bits .and .u64 x 4294967295 = x := by
 have h := bits_mask .u64 63 (by decide) (fun n h₀ h₁ => by rw [IntKind.wrap_u64]; omega) 32 (by decide) x h0 (by omega)
 have e : ((2 : Int) ^ 32 - 1) = 4294967295 := by decide
 have e2 : ((2 : Int) ^ 32) = 4294967296 := by decide
 rw [e, e2] at h
 rw [h]
 omega
theorem mul_one (n : Nat) (h : n ≤ 1000) : bits_Mul.f 1 (n : Int) = some (0, (n : Int)) := by
 unfold bits_Mul.f bits_Mul64.f
 simp only [Option.bind_some]
 rw [mask32 1 (by decide) (by decide), mask32 (n : Int) (by omega) (by omega)]
 have e0 : (1 : Int) / 4294967296 = 0 := by decide
 have e1 : (n : Int) / 4294967296 = 0 := by omega
 have e2 : ∀ x : Int, 0 ≤ x → x < 1000000 → IntKind.u64.wrap x = x := fun x h0 h1 => by rw [IntKind.wrap_u64]; omega
 have e3 : IntKind.u64.wrap 0 = 0 := e2 0 (by decide) (by decide)
 rw [e0, e1, Int.zero_mul, Int.zero_mul, Int.one_mul, Int.mul_zero, e3, e2 (n : Int) (by omega) (by omega), e1, Int.add_zero, e3, Int.add_zero, mask32 0 (by decide) (by decide)]
 simp [e3]
/-- The cells of many equal fractions. -/
def flat (a b : Int) : Nat → List Value
 | 0 => []
 | m + 1 => .int .i64 a :: .int .i64 b :: flat a b m
theorem flat_length (a b : Int) : ∀ m, (flat a b m).length = m * 2
 | 0 => rfl
 | m + 1 => by rw [flat, List.length_cons, List.length_cons, flat_length a b m]; omega
theorem flat_at (a b : Int) : ∀ m j v, (flat a b m)[j]? = some v → v = (if j % 2 = 0 then .int .i64 a else .int .i64 b)
 | 0, j, v, h => by simp [flat] at h
 | m + 1, 0, v, h => by simp [flat] at h; simp [h]
 | m + 1, 1, v, h => by simp [flat] at h; simp [h]
 | m + 1, j + 2, v, h => by
  have := flat_at a b m j v (by simpa [flat] using h)
  rw [this, show (j + 2) % 2 = j % 2 by omega]
theorem flat_one (a b : Int) (m : Nat) : ∀ v ∈ flat a b m, v.oneCell' = true := by
 intro v hv
 obtain ⟨j, hj, rfl⟩ := List.getElem_of_mem hv
 have := flat_at a b m j _ (List.getElem?_eq_getElem hj)
 rw [this]
 split <;> rfl
section
variable {base g n cap : Nat} {w0 : World} (a b : Int)
theorem fills : ∀ m o (w : World) (x : List S27), Kd.R k27 27 w base (fun _ => True) (.slice (some ⟨g, 0, none⟩) n cap) x → Below w0.heap.size w0 w → w0.heap.size ≤ g → o + m ≤ x.length →
 Kd.R k27 27 (w.setCells g (o * 2) (flat a b m)) base (fun _ => True) (.slice (some ⟨g, 0, none⟩) n cap) (x.take o ++ List.replicate m ⟨a, b⟩ ++ x.drop (o + m)) ∧ Below w0.heap.size w0 (w.setCells g (o * 2) (flat a b m))
 | 0, o, w, x, h, hb, _, _ => ⟨by simp only [List.replicate_zero, flat, World.setCells, List.append_nil, Nat.add_zero, List.take_append_drop]; exact h, hb⟩
 | m + 1, o, w, x, h, hb, hg, hl => by
  have hnx := (Kd.R_reads' h).1
  obtain ⟨c, hcl, hM, hc, hf⟩ := Kd.R_elem h z27 (o : Int) (by omega) (by omega)
  have hs := (Kd.R_seg h (o : Int) (by omega) (by omega) (seg := [.int .i64 a, .int .i64 b]) (j := 0) hcl hc (show 2 ≤ 2 from Nat.le_refl _) (x' := ⟨a, b⟩) (okp := fun _ => False) (by
   have e : List.take 0 c ++ [Value.int .i64 a, .int .i64 b] ++ List.drop (0 + [Value.int .i64 a, .int .i64 b].length) c = [.int .i64 a, .int .i64 b] := by
    rw [List.drop_of_length_le (by rw [hcl]; exact (show 2 ≤ 2 from Nat.le_refl _))]
    rfl
   rw [e]
   exact k27_mkM _ _ _ ⟨a, b⟩) (fun _ hk => hk.elim)).1
  rw [Int.toNat_natCast] at hs
  obtain ⟨p, q⟩ := fills m (o + 1) _ (x.set o ⟨a, b⟩) hs (below_set (below_set hb hg) hg) hg (by rw [List.length_set]; omega)
  have e : (x.set o ⟨a, b⟩).take (o + 1) ++ List.replicate m ⟨a, b⟩ ++ (x.set o ⟨a, b⟩).drop (o + 1 + m) = x.take o ++ List.replicate (m + 1) ⟨a, b⟩ ++ x.drop (o + (m + 1)) := by
   rw [List.take_succ_eq_append_getElem (by rw [List.length_set]; omega), List.take_set_of_le (Nat.le_refl _), List.getElem_set_self, List.drop_set_of_lt (by omega), show o + 1 + m = o + (m + 1) from by omega, List.replicate_succ]
   simp
  rw [e] at p
  have e2 : (w.setCells g (o * 2) (flat a b (m + 1))) = ((w.setCells g (o * 2 + 0) [.int .i64 a, .int .i64 b]).setCells g ((o + 1) * 2) (flat a b m)) := by
   simp only [flat, World.setCells]
   rw [show (o + 1) * 2 = o * 2 + 1 + 1 from by omega]
   rfl
  rw [e2]
  exact ⟨p, q⟩
end
theorem frozen_of {base g n cap : Nat} {ok : Nat → Prop} {x : List S27} {w : World} (h : Kd.R k27 27 w base ok (.slice (some ⟨g, 0, none⟩) n cap) x) (j : Nat) : w.frozen? ⟨g, j, none⟩ = false := by
 obtain ⟨inner, ho⟩ := Kd.R_own h
 obtain ⟨cells, hcc⟩ := own_typed ho g (by simp [Value.ownBlock])
 exact blk_frozen hcc j
theorem cell_of {base g n cap : Nat} {ok : Nat → Prop} {x : List S27} {w : World} (h : Kd.R k27 27 w base ok (.slice (some ⟨g, 0, none⟩) n cap) x) (j : Nat) (hj : j < n * 2) : w.cell? ⟨g, j, none⟩ = some (if j % 2 = 0 then .int .i64 (rd_T27 x ((j / 2 : Nat) : Int)).f0 else .int .i64 (rd_T27 x ((j / 2 : Nat) : Int)).f1) := by
 obtain ⟨c, hcl, hM, hc, hf⟩ := Kd.R_elem h z27 ((j / 2 : Nat) : Int) (by omega) (by omega)
 obtain rfl := k27_openM hM
 rw [Int.toNat_natCast] at hc
 by_cases h2 : j % 2 = 0
 ·rw [if_pos h2]
  have := hc 0 _ rfl
  rw [show j / 2 * k27.sz + 0 = j from by show j / 2 * 2 + 0 = j; omega] at this
  exact this
 ·rw [if_neg h2]
  have := hc 1 _ rfl
  rw [show j / 2 * k27.sz + 1 = j from by show j / 2 * 2 + 1 = j; omega] at this
  exact this
theorem copy_first (a b : Int) (n cap c g : Nat) (ad : Addr) (base : Nat) (w : World) (ty : TypeId) (h1 : 1 ≤ n) {ok : Nat → Prop} {x : List S27} (h : Kd.R k27 27 w base ok (.slice (some ⟨g, 0, none⟩) n cap) x) (hx : w.cell? ad = some (.int .i64 a)) (hy : w.cell? (ad.add 1) = some (.int .i64 b)) :
 (Builtin.copy_ #[77, 77] ty #[.slice (some ⟨g, 0, none⟩) n cap, .slice (some ad) 1 c]).run Try.prog w = .ok (.int .i64 1) (w.setCells g 0 (flat a b 1)) := by
 have hm : Nat.min 1 n = 1 := Nat.min_eq_left h1
 have := run_copy_sized (P := Try.prog) w 77 77 ty 27 g 0 n cap ad 1 c 2 (flat a b 1) Try.underlying77 (by simpa using congrArg (fun o => o.map (fun q => q.2.1)) infoF) (by rw [hm]; rfl) (by
  intro j v hj
  match j, hj with
  | 0, hj => (obtain rfl : (Value.int .i64 a) = v := by simpa [flat] using hj); rw [Addr.add_zero']; exact hx
  | 1, hj => (obtain rfl : (Value.int .i64 b) = v := by simpa [flat] using hj); exact hy) (by
  intro j hj
  rw [Nat.zero_add, cell_of h j (by rw [flat_length] at hj; omega)]
  rfl) (by intro j hj; exact frozen_of h _) (flat_one a b 1)
 rw [hm] at this
 exact this
set_option maxHeartbeats 8000000 in
set_option maxRecDepth 100000 in
theorem repeat_one (a b : Int) (n : Nat) (h1 : 1 ≤ n) (h13 : n ≤ 1000) (ad : Addr) (c : Nat) (w : World) (hx : w.cell? ad = some (.int .i64 a)) (hy : w.cell? (ad.add 1) = some (.int .i64 b)) :
 Calls Try.prog 130 #[.slice (some ad) 1 c, .int .i64 n] w fun e w' => ∃ v : Value, e = .returned v ∧ Kd.R k27 27 w' w.heap.size (fun _ => True) v (List.replicate n ⟨a, b⟩) ∧ Below w.heap.size w w' := by
 have hu64 : IntKind.u64.wrap (n : Int) = n := by simp only [IntKind.wrap_u64]; omega
 have hi64 : IntKind.i64.wrap (n : Int) = n := by simp only [IntKind.wrap_i64]; omega
 have b0 : decide ((n : Int) < 0) = false := decide_eq_false (by omega)
 have b1 : decide ((9223372036854775807 : Int) < (n : Int)) = false := decide_eq_false (by omega)
 have HM := zA (mul_one n h13)
 have H1 := zA h1
 have H13 := zA h13
 have HX := zA hx
 have HY := zA hy
 clear hx hy
 go_enter Try.func130, Try.ntmps130
 go_wp2_with (first | (go_at_call 163; refine (bits_Mul.calls 1 n 0 n _ HM.out).mono ?_; rintro e w' ⟨rfl, nd, rfl⟩) | ((with_reducible refine gate_dst (N := 30) rfl ?_); (refine Kd.R_make k27 _ 27 rfl (N := 30) rfl 77 _ _ rfl (n : Int) rfl rfl Try.underlying77 (.agg #[.int .i64 0, .int .i64 0]) 16 infoF rfl (by decide) (by omega) z27 (ok := fun _ => True) (okp := fun _ => True) (k27_mkM _ _ _ z27) (fun _ hk => hk) trivial (by omega) (by rw [Int.toNat_natCast]; omega) (Below.refl _ _) (Nat.le_refl _) ?_; intro v30 w7 ho5 hb hg_ hnew_; clear hg_ hnew_; obtain ⟨g, cap, ev, hgb, hgl, hcc⟩ := Kd.R_form ho5 (by rw [List.length_replicate, Int.toNat_natCast]; exact H1.out); rw [List.length_replicate, Int.toNat_natCast] at ev; subst ev; have hnc := (Kd.R_reads' ho5).2.1; rw [Int.toNat_natCast] at ho5; have HN := zA ho5; have HB := zA (below_step (pw_below_drewN (Below.refl w.heap.size w) nd) hb); have HG := zA (show w.heap.size ≤ g from hgb); have HNC := zA hnc; have hx7 := (hb.cell (World.block_lt_of_cell? _ _ HX.out)).trans HX.out; have hy7 := (hb.cell (World.block_lt_of_cell? _ _ HY.out)).trans HY.out; have hcp : ∀ (W : World) (ty : TypeId), W = w7 → (Builtin.copy_ #[77, 77] ty #[.slice (some ⟨g, 0, none⟩) n cap, .slice (some ad) 1 c]).run Try.prog W = .ok (.int .i64 1) (w7.setCells g 0 (flat a b 1)) := (by rintro W ty rfl; exact copy_first a b n cap c g ad _ W ty H1.out HN.out hx7 hy7); clear hgl hcc ho5 hb hx7 hy7)))
 go_loopg [8] n (fun gg s8 wr => ∃ m : Nat, 1 ≤ m ∧ m ≤ n ∧ n - m ≤ gg ∧ s8 = .int .i64 m ∧ Aside0 (Kd.R k27 27 wr w.heap.size (fun _ => True) (.slice (some ⟨g, 0, none⟩) n cap) (List.replicate m ⟨a, b⟩ ++ List.replicate (n - m) z27)) ∧ Aside0 (Below w.heap.size w wr))
 case atStart =>
  obtain ⟨p, q⟩ := fills a b 1 0 w7 _ HN.out HB.out HG.out (by rw [List.length_replicate]; exact H1.out)
  refine ⟨1, Nat.le_refl _, H1.out, by omega, rfl, ⟨?_⟩, ⟨q⟩⟩
  rw [List.take_zero, List.nil_append, List.drop_replicate, Nat.zero_add] at p
  exact p
 case round =>
  clear HN HB
  obtain ⟨m, hm1, hmn, hgg, rfl, HR, HBB⟩ := hrel
  by_cases hlt : m < n
  ·have hltz : (m : Int) < (n : Int) := by omega
   obtain ⟨q, hq⟩ : ∃ q, Nat.min m (n - m) = q := ⟨_, rfl⟩
   have hq1 : q ≤ m := by rw [← hq]; exact Nat.min_le_left _ _
   have hq2 : q ≤ n - m := by rw [← hq]; exact Nat.min_le_right _ _
   have hq0 : 0 < q := by rw [← hq]; exact Nat.lt_min.2 ⟨by omega, by omega⟩
   have hcap := HNC.out
   have hlen : (List.replicate m (⟨a, b⟩ : S27) ++ List.replicate (n - m) z27).length = n := by rw [List.length_append, List.length_replicate, List.length_replicate]; omega
   have HRd := zA (Kd.R_drew HR.out)
   have hcp : ∀ (W : World) (ty : TypeId), W = wr.drew → (Builtin.copy_ #[77, 77] ty #[.slice (some ⟨g, m * 2, none⟩) (n - m) (cap - m), .slice (some ⟨g, 0, none⟩) m cap]).run Try.prog W = .ok (.int .i64 q) (wr.drew.setCells g (m * 2) (flat a b q)) := by
    rintro W ty rfl
    have := run_copy_sized (P := Try.prog) wr.drew 77 77 ty 27 g (m * 2) (n - m) (cap - m) ⟨g, 0, none⟩ m cap 2 (flat a b q) Try.underlying77 (by simpa using congrArg (fun o => o.map (fun q => q.2.1)) infoF) (by rw [flat_length, hq]) (by
     intro j v hj
     have hjl := (List.getElem?_eq_some_iff.1 hj).1
     rw [flat_length] at hjl
     have hv := flat_at a b q j v hj
     rw [add_at, Nat.zero_add, cell_of HRd.out j (by omega), hv]
     have e : rd_T27 (List.replicate m (⟨a, b⟩ : S27) ++ List.replicate (n - m) z27) ((j / 2 : Nat) : Int) = ⟨a, b⟩ := by
      have hjm : j / 2 < m := by omega
      unfold rd_T27
      rw [Int.toNat_natCast, List.getD_eq_getElem?_getD, List.getElem?_append_left (by rw [List.length_replicate]; exact hjm), List.getElem?_replicate, if_pos hjm]
      rfl
     rw [e]) (by
     intro j hj
     rw [flat_length] at hj
     rw [cell_of HRd.out (m * 2 + j) (by omega)]
     rfl) (by intro j hj; exact frozen_of HRd.out _) (flat_one a b q)
    rw [hq] at this
    exact this
   have HZ := zA (fills a b q m wr.drew _ HRd.out (below_drew1 HBB.out) HG.out (by rw [hlen]; omega))
   have pm : (0 ≤ (m : Int)) = True := eq_true (by omega)
   have qm : ((m : Int) ≤ (n : Int)) = True := eq_true (by omega)
   have qm1 : (m ≤ n) = True := eq_true hmn
   have qm2 : ((m : Int) ≤ (cap : Int)) = True := eq_true (by omega)
   have qm3 : (m ≤ cap) = True := eq_true (by omega)
   have qm4 : (cap = m) = False := eq_false (by omega)
   have qm5 : (m = cap) = False := eq_false (by omega)
   clear hlen
   go_wp2
   go_region
   all_goals go_wp2
   go_roundg (n - (m + q))
   case measure => omega
   case rel =>
    refine ⟨m + q, by omega, by omega, by omega, ?_, ⟨?_⟩, ⟨HZ.out.2⟩⟩
    ·congr 1
    ·have h := HZ.out.1
     have e1 : (List.replicate m (⟨a, b⟩ : S27) ++ List.replicate (n - m) z27).take m = List.replicate m ⟨a, b⟩ := by
      rw [List.take_left' (by rw [List.length_replicate])]
     have e2 : (List.replicate m (⟨a, b⟩ : S27) ++ List.replicate (n - m) z27).drop (m + q) = List.replicate (n - (m + q)) z27 := by
      rw [← List.drop_drop, List.drop_left' (by rw [List.length_replicate]), List.drop_replicate]
      congr 1
      omega
     rw [e1, e2, ← List.replicate_append_replicate.symm] at h
     exact h
  ·have hltz : ¬ (m : Int) < (n : Int) := by omega
   obtain rfl : m = n := by omega
   go_wp2
   go_ret
   refine ⟨_, rfl, ?_, HBB.out⟩
   have := HR.out
   rwa [Nat.sub_self, List.replicate_zero, List.append_nil] at this
theorem blk_new (w : World) (o : Obj) : (w.alloc o).heap[w.heap.size]? = some o := by
  show (w.heap.push o)[w.heap.size]? = some o
  simp
theorem cell_new (w : World) (cs : Array Value) (t : TypeId) (j : Nat) : (w.alloc (.cells cs t)).cell? ⟨w.heap.size, j, none⟩ = cs[j]? := by
  have h := blk_new w (.cells cs t)
  simp only [World.cell?, h]
  rfl
theorem row_ok {w : World} {base n cap g : Nat} {ok : Nat → Prop} {vs : List S27} (h : Kd.R k27 27 w base ok (.slice (some ⟨g, 0, none⟩) n cap) vs) : Kd.R k27 27 w base (fun k => k = g) (.slice (some ⟨g, 0, none⟩) n cap) vs := by
  refine ⟨fun k hk => ?_, h.2.imp_ (fun p c hp => ?_)⟩
  · simp [Value.ownBlock] at hk
    exact hk.symm
  · obtain rfl := k27_openM hp
    exact k27_mkM _ _ _ p
set_option maxHeartbeats 4000000 in
set_option maxRecDepth 100000 in
theorem newTable (k : Nat) (d n : Int) (ws : List ByteArray) (hk : impl_allWords.f k d n = some ws) (h1 : 1 ≤ ws.length) (h2 : ws.length ≤ 1000) (w : World) :
    Calls Try.prog 85 #[.int .i64 d, .int .i64 n] w fun e w' => ∃ B g cap, e = .returned (.pointer (some ⟨B, 0, none⟩)) ∧ Tab w' w.heap.size B g cap d n (List.replicate ws.length ⟨0, 1⟩) false ∧ Below w.heap.size w w' := by
  have HK := zA hk
  have H1 := zA h1
  have H2 := zA h2
  clear hk h1 h2
  go_enter Try.func85, Try.ntmps85
  go_wp2_with (first | (go_at_call 131; refine (impl_zero.calls 0 1 _ rfl).mono ?_; rintro e w1 ⟨rfl, hb1⟩; have HB1 := zA (below_step (Below.refl w.heap.size w) hb1); clear hb1) | (go_at_call 132; refine (impl_allWords.calls k d n ws _ HK.out).mono ?_; rintro e w2 ⟨v0, rfl, hv0, hb2⟩; obtain ⟨A2, c2, rfl⟩ := Kd.R_slice hv0; have HX := zA (show w2.cell? ⟨w1.heap.size, 0, none⟩ = some (.int .i64 0) from (hb2.cell (p := ⟨w1.heap.size, 0, none⟩) (by simp)).trans (cell_new w1 _ _ 0)); have HY := zA (show w2.cell? ⟨w1.heap.size, 1, none⟩ = some (.int .i64 1) from (hb2.cell (p := ⟨w1.heap.size, 1, none⟩) (by simp)).trans (cell_new w1 _ _ 1)); have HB2 := zA (below_step (below_alloc HB1.out (.cells #[.int .i64 0, .int .i64 1] 27)) hb2); clear hb2 hv0 HB1) | (go_at_call 130; refine (repeat_one 0 1 ws.length H1.out H2.out ⟨w1.heap.size, 0, none⟩ 1 _ HX.out HY.out).mono ?_; rintro e w3 ⟨v, rfl, hv, hb3⟩; obtain ⟨g, cap, ev, hgb, hgl, hcc⟩ := Kd.R_form hv (by rw [List.length_replicate]; exact H1.out); subst ev; have HV := zA hv; have HB3 := zA (below_step HB2.out hb3); have HG := zA hgb; have HGL := zA hgl; have HLE := zA (below_size HB2.out); clear hv hb3 hgb hgl hcc))
  go_ret
  refine ⟨w3.heap.size, g, cap, rfl, ⟨?_, ?_, below_size HB3.out, Nat.ne_of_gt HGL.out⟩, below_alloc HB3.out _⟩
  · rw [List.length_replicate]
    exact blk_new w3 _
  · rw [List.length_replicate]
    rw [List.length_replicate] at HV
    exact Kd.R_lower (row_ok (Kd.R_alloc HV.out _)) HLE.out
theorem blk_new2 (w : World) (o o' : Obj) : ((w.alloc o).alloc o').heap[w.heap.size + 1]? = some o' := by
  have := blk_new (w.alloc o) o'
  rwa [World.size_alloc] at this
theorem blk_new3 (w : World) (a : Addr) (v : Value) (o o' : Obj) : (((w.setCell a v).alloc o).alloc o').heap[w.heap.size + 1]? = some o' := by
  have := blk_new2 (w.setCell a v) o o'
  simpa using this
theorem two_cells {w : World} {B : Nat} {x y : Value} {t : TypeId} (h : w.heap[B]? = some (.cells #[x, y] t (0, 0))) : w.cell? ⟨B, 0, none⟩ = some x ∧ w.cell? ⟨B, 1, none⟩ = some y ∧ ∀ j, w.frozen? ⟨B, j, none⟩ = false := by
  refine ⟨by simp [World.cell?, h], by simp [World.cell?, h], fun j => blk_frozen h j⟩
/-- One of two. -/
def sel (c : Bool) (x y : Int) : Int := if c = true then x else y
/-- All blocks but B are as they were. -/
def Touch (w w' : World) (B : Nat) : Prop := w.heap.size ≤ w'.heap.size ∧ ∀ k, k < w.heap.size → k ≠ B → w'.heap[k]? = w.heap[k]?
theorem Touch.of_below {w w' : World} (B : Nat) (h : Below w.heap.size w w') : Touch w w' B := ⟨h.size, fun k hk _ => h.block k hk⟩
theorem Touch.trans {w w' w'' : World} {B : Nat} (h : Touch w w' B) (h' : Touch w' w'' B) : Touch w w'' B := ⟨Nat.le_trans h.1 h'.1, fun k hk hne => (h'.2 k (Nat.lt_of_lt_of_le hk h.1) hne).trans (h.2 k hk hne)⟩
theorem Touch.set (w : World) (B j : Nat) (v : Value) : Touch w (w.setCell ⟨B, j, none⟩ v) B := ⟨(Below.refl w.heap.size w |>.setCell (p := ⟨w.heap.size, 0, none⟩) (Nat.le_refl _) v).size |> fun _ => by simp, fun k _ hne => Below.heap_setCell w ⟨B, j, none⟩ v k hne⟩
set_option maxHeartbeats 4000000 in
set_option maxRecDepth 100000 in
theorem check (a b : Int) (fits : Bool) (base B g cap : Nat) (d n : Int) (vs : List S27) (bad : Bool) (w : World) (h : Tab w base B g cap d n vs bad) :
    Calls Try.prog 142 #[.pointer (some ⟨B, 0, none⟩), .agg #[.int .i64 a, .int .i64 b], .bool fits] w fun e w' => e = .returned (.agg #[.int .i64 (sel fits a 0), .int .i64 (sel fits b 1)]) ∧ Tab w' base B g cap d n vs (bad || !fits) ∧ Touch w w' B ∧ ∀ b, b ≤ B → Below b w w' := by
  have HT := zA h
  have x3 := h.cells.2.2.2
  have f3 := h.frozen 3
  have hlt := h.ltB
  have HN3 := World.new_ne w _ x3
  clear h
  cases fits with
  | true =>
    go_enter Try.func142, Try.ntmps142
    go_wp2
    refine bodyPost_ret (results_cell_row rfl _ _ (w.heap.size + 1) 27 #[.int .i64 a, .int .i64 b] (0, 0) _ rfl (blk_new2 _ _ _) Try.underlying27 rfl (by kernel_rfl)) rfl ?_
    refine ⟨rfl, ?_, ?_, fun b hb => (below_alloc (below_alloc (Below.refl _ _) _) _).mono (by omega)⟩
    · (try rw [show (bad || !true) = bad from by simp])
      exact HT.out.below (below_alloc (below_alloc (Below.refl _ _) _) _)
    · exact Touch.of_below B (below_alloc (below_alloc (Below.refl _ _) _) _)
  | false =>
    go_enter Try.func142, Try.ntmps142
    go_wp2_with (go_at_call 131; refine (impl_zero.calls 0 1 _ rfl).mono ?_; rintro e w1 ⟨rfl, hb1⟩; have hr := (hb1.block (w.heap.size + 1) (by simp)).trans (blk_new3 w ⟨B, 3, none⟩ (.bool true) _ _); obtain ⟨r0, r1, rf⟩ := two_cells hr; have rf0 := rf 0; have rf1 := rf 1; have HB1 := zA hb1; have HR := zA hr; clear hb1 hr rf)
    refine bodyPost_ret (results_cell_row rfl _ _ (w.heap.size + 1) 27 #[.int .i64 0, .int .i64 1] (0, 0) _ rfl (blk_put (cs := #[.int .i64 0, .int .i64 0]) (blk_put (cs := #[.int .i64 0, .int .i64 0]) HR.out 0 _ rfl) 1 _ rfl) Try.underlying27 rfl (by kernel_rfl)) rfl ?_
    have ht : Tab w1 base B g cap d n vs true := ((HT.out.mark true).below (below_alloc (below_alloc (Below.refl _ _) _) _)).below HB1.out
    have hgl := HT.out.lt
    refine ⟨rfl, ?_, ?_, fun b' hb => ?_⟩
    rotate_left 2
    · have e1 : Below b' w (w.setCell ⟨B, 3, none⟩ (.bool true)) := (Below.refl b' w).setCell (p := ⟨B, 3, none⟩) hb _
      have e2 := e1.trans ((below_alloc (below_alloc (Below.refl (w.setCell ⟨B, 3, none⟩ (.bool true)).heap.size _) (.cells #[.int .i64 a, .int .i64 b] 27)) (.cells #[.int .i64 0, .int .i64 0] 27)).mono (by simp; omega))
      have e3 := e2.trans (HB1.out.mono (by simp; omega))
      exact (e3.setCell (p := ⟨w.heap.size + 1, 0, none⟩) (by simp; omega) _).setCell (p := ⟨w.heap.size + 1, 1, none⟩) (by simp; omega) _
    · (try rw [show (bad || !false) = true from by simp])
      exact ht.move (fun k hk => (Below.heap_setCell _ ⟨w.heap.size + 1, 1, none⟩ _ k (by simp; omega)).trans (Below.heap_setCell _ ⟨w.heap.size + 1, 0, none⟩ _ k (by simp; omega)))
    · have t1 : Touch w w1 B := ((Touch.set w B 3 (.bool true)).trans (Touch.of_below B (below_alloc (below_alloc (Below.refl _ _) _) _))).trans (Touch.of_below B HB1.out)
      refine ⟨by simpa using t1.1, fun k hk hne => ?_⟩
      exact (Below.heap_setCell _ ⟨w.heap.size + 1, 1, none⟩ _ k (by simp; omega)).trans ((Below.heap_setCell _ ⟨w.heap.size + 1, 0, none⟩ _ k (by simp; omega)).trans (t1.2 k hk hne))
theorem of_drawn {w w' : World} (h : Drawn0 w w') : Below w.heap.size w w' := by
  obtain ⟨n, rfl⟩ := h
  exact pw_below_drewN (Below.refl _ _) _
/-- The terms of a table. -/
def termsOf (ws : List ByteArray) (vs : List S27) (m : Nat) : List S89 := (List.range m).flatMap fun (i : Nat) => if (rd_T27 vs (i : Int)).f0 = 0 then [] else [⟨rdOf ByteArray.empty ws (i : Int), rd_T27 vs (i : Int)⟩]
theorem infoT : (Try.prog.info? 89).map (fun i => (i.zero, i.size, i.bytes)) = some (some (.agg #[(.string ⟨#[]⟩), (.int .i64 0), (.int .i64 0)]), 3, 32) := by kernel_rfl
theorem cell_of_block {w w1 : World} {b j : Nat} (h : w1.heap[b]? = w.heap[b]?) : w1.cell? ⟨b, j, none⟩ = w.cell? ⟨b, j, none⟩ := by simp only [World.cell?, h]
theorem Tab.typed {w : World} {base B g cap : Nat} {d n : Int} {vs : List S27} {bad : Bool} (h : Tab w base B g cap d n vs bad) : ∃ cells, w.heap[g]? = some (.cells cells 27 (0, 0)) := by
 obtain ⟨inner, ho⟩ := Kd.R_own h.row
 exact own_typed ho g (by simp [Value.ownBlock])
theorem termsOf_succ (ws : List ByteArray) (vs : List S27) (i : Nat) : termsOf ws vs (i + 1) = termsOf ws vs i ++ (if (rd_T27 vs (i : Int)).f0 = 0 then [] else [⟨rdOf ByteArray.empty ws (i : Int), rd_T27 vs (i : Int)⟩]) := by
 unfold termsOf
 rw [List.range_succ, List.flatMap_append]
 simp
theorem termsOf_length (ws : List ByteArray) (vs : List S27) : ∀ m, (termsOf ws vs m).length ≤ m
 | 0 => Nat.le_refl _
 | m + 1 => by
  have := termsOf_length ws vs m
  rw [termsOf_succ, List.length_append]
  split <;> simp <;> omega
set_option maxHeartbeats 8000000 in
set_option maxRecDepth 100000 in
theorem series (k : Nat) (d n : Int) (ws : List ByteArray) (hk : impl_allWords.f k d n = some ws) (h1 : 1 ≤ ws.length) (h2 : ws.length ≤ 1000) (base B g cap : Nat) (vs : List S27) (bad : Bool) (hl : vs.length = ws.length) (w : World) (h : Tab w base B g cap d n vs bad) :
 Calls Try.prog 88 #[.pointer (some ⟨B, 0, none⟩)] w fun e w' => ∃ v, e = .returned (.agg #[.int .i64 d, .int .i64 n, v]) ∧ Kd.R k89 89 w' w.heap.size (fun _ => True) v (termsOf ws vs ws.length) ∧ Below w.heap.size w w' := by
 have HT := zA h
 obtain ⟨x0, x1, x2, x3⟩ := h.cells
 have hlt := h.ltB
 have HN0 := World.new_ne w _ x0
 have HN1 := World.new_ne w _ x1
 have HN2 := World.new_ne w _ x2
 have HK := zA hk
 clear h hk
 go_enter Try.func88, Try.ntmps88
 go_wp2
 go_region_held3 (fun w' => w'.cell? ⟨B, 0, none⟩ = some (.int .i64 d) ∧ w'.cell? ⟨B, 1, none⟩ = some (.int .i64 n)) (go_keep) (first | fail)
 all_goals go_wp2
 have b0 : Below w.heap.size w (((w.alloc (.cells #[.int .i64 0, .int .i64 0, .slice none 0 0] 32)).alloc (.cells #[.int .i64 d, .int .i64 n, .slice none 0 0] 32)).drew) := below_drew (below_alloc (below_alloc (Below.refl _ _) _) _)
 have HT0 := zA (HT.out.below b0)
 have R0 := zA (show (((w.alloc (.cells #[.int .i64 0, .int .i64 0, .slice none 0 0] 32)).alloc (.cells #[.int .i64 d, .int .i64 n, .slice none 0 0] 32)).drew).heap[w.heap.size]? = some (.cells #[.int .i64 0, .int .i64 0, .slice none 0 0] 32 (0, 0)) from (Below.block (below_alloc (Below.refl _ (w.alloc (.cells #[.int .i64 0, .int .i64 0, .slice none 0 0] 32))) _) w.heap.size (by simp)).trans (blk_new w _))
 have X0 := zA (show (((w.alloc (.cells #[.int .i64 0, .int .i64 0, .slice none 0 0] 32)).alloc (.cells #[.int .i64 d, .int .i64 n, .slice none 0 0] 32)).drew).heap[w.heap.size + 1]? = some (.cells #[.int .i64 d, .int .i64 n, .slice none 0 0] 32 (0, 0)) from blk_new2 w _ _)
 have B0 := zA b0
 have hs0 : (((w.alloc (.cells #[.int .i64 0, .int .i64 0, .slice none 0 0] 32)).alloc (.cells #[.int .i64 d, .int .i64 n, .slice none 0 0] 32)).drew).heap.size = w.heap.size + 2 := by simp
 clear b0
 generalize (((w.alloc (.cells #[.int .i64 0, .int .i64 0, .slice none 0 0] 32)).alloc (.cells #[.int .i64 d, .int .i64 n, .slice none 0 0] 32)).drew) = W1 at HT0 R0 X0 B0 hs0 ⊢
 clear HT x0 x1 x2 x3 HN0 HN1 HN2
 obtain ⟨x0, x1, x2, x3⟩ := HT0.out.cells
 go_region_held3 (fun w' => w'.cell? ⟨B, 0, none⟩ = some (.int .i64 d) ∧ w'.cell? ⟨B, 1, none⟩ = some (.int .i64 n)) (first | exact ⟨pw_cell_below hb2 x0, pw_cell_below hb2 x1⟩ | go_keep) (first | (go_at_call 132; refine (impl_allWords.calls k d n ws _ HK.out).mono ?_; rintro e w2 ⟨v0, rfl, hv0, hb2⟩; obtain ⟨gw, cw, rfl, hgw1, hgw2, hgw3⟩ := Kd.R_form hv0 (by omega)))
 all_goals go_wp2
 have h8 : W1.drew.heap.size = w.heap.size + 2 := hs0
 have HT2 := zA ((HT0.out.below (below_drew (Below.refl _ _))).below hb2)
 have R2 := zA ((hb2.block w.heap.size (by omega)).trans R0.out)
 have X2 := zA ((hb2.block (w.heap.size + 1) (by omega)).trans X0.out)
 have W2 := zA (Kd.R_lower hv0 (base' := w.heap.size) (by omega))
 have B2 := zA (below_step (below_drew B0.out) hb2)
 clear hv0 hb2 hgw1 hgw2 hgw3 x0 x1 x2 x3 HT0 R0 X0 B0 hs0 h8
 go_loopw [25] (fun s25 wr => ∃ (i : Nat) (tv : Value), i ≤ ws.length ∧ s25 = .int .i64 i ∧ Aside0 (Tab wr base B g cap d n vs bad) ∧ Aside0 (wr.heap[w.heap.size]? = some (.cells #[.int .i64 0, .int .i64 0, .slice none 0 0] 32 (0, 0))) ∧ Aside0 (wr.heap[w.heap.size + 1]? = some (.cells #[.int .i64 d, .int .i64 n, tv] 32 (0, 0))) ∧ Aside0 (Kd.R k89 89 wr w.heap.size (fun _ => True) tv (termsOf ws vs i)) ∧ Aside0 (Kd.R Kd.string 9 wr w.heap.size (fun _ => True) (.slice (some ⟨gw, 0, none⟩) ws.length cw) ws) ∧ Aside0 (Below w.heap.size w wr)) (fun s25 _ => ws.length - (intOf s25).toNat)
 case atStart => exact ⟨0, .slice none 0 0, Nat.zero_le _, rfl, HT2, R2, X2, ⟨Kd.R_nil _ _ _ _ _⟩, W2, B2⟩
 case round =>
  clear HT2 R2 X2 W2 B2
  obtain ⟨i, tv, hi, rfl, HT, RB, XB, TR, WR, BB⟩ := hrel
  by_cases hlt : i < ws.length
  ·have hltz : (i : Int) < (ws.length : Int) := by omega
   obtain ⟨y0, _⟩ := Kd.R_celln ByteArray.empty WR.out (i : Int) (by omega) hltz
   rw [Int.toNat_natCast] at y0
   obtain ⟨v0, v1, vf⟩ := HT.out.val (i : Int) (by omega) (by omega)
   rw [Int.toNat_natCast] at v0 v1
   have x2 := HT.out.cells.2.2.1
   have p1 : (0 ≤ (i : Int)) = True := eq_true (by omega)
   have p2 : ((i : Int) < (vs.length : Int)) = True := eq_true (by omega)
   have p3 : (i < vs.length) = True := eq_true (by omega)
   clear vf
   have XC : wr.cell? ⟨w.heap.size + 1, 2, none⟩ = some tv := (blk_cell XB.out 2).trans rfl
   have nX := Kd.R_ne TR.out XB.out (by decide)
   have nB := Kd.R_ne TR.out HT.out.head (by decide)
   obtain ⟨cg, hcg⟩ := Tab.typed HT.out
   have ng := Kd.R_ne TR.out hcg (by decide)
   have hxl := (Array.getElem?_eq_some_iff.1 XB.out).1
   have hbl := HT.out.ltB
   have hgl := HT.out.lt
   have hsm := below_size BB.out
   have htl := termsOf_length ws vs i
   have hkeep : ∀ (w1 : World), wr.drew.grownBy w1 tv.ownBlock → w1.cell? ⟨w.heap.size + 1, 2, none⟩ = some tv ∧ w1.cell? ⟨B, 2, none⟩ = some (.slice (some ⟨g, 0, none⟩) vs.length cap) ∧ w1.cell? ⟨g, i * 2, none⟩ = some (.int .i64 (rd_T27 vs (i : Int)).f0) ∧ w1.cell? ⟨g, i * 2 + 1, none⟩ = some (.int .i64 (rd_T27 vs (i : Int)).f1) := by
    intro w1 hg
    have e : ∀ k, k < wr.heap.size → some k ≠ tv.ownBlock → w1.heap[k]? = wr.heap[k]? := fun k hk hne => hg.block k hk hne
    exact ⟨(cell_of_block (e _ hxl nX)).trans XC, (cell_of_block (e _ hbl nB)).trans x2, (cell_of_block (e _ hgl ng)).trans v0, (cell_of_block (e _ hgl ng)).trans v1⟩
   have hfz : ∀ (w1 : World), wr.drew.grownBy w1 tv.ownBlock → w1.frozen? ⟨w.heap.size + 1, 2, none⟩ = false ∧ w1.cell? ⟨w.heap.size + 1, 2, none⟩ = some tv := fun w1 hg => ⟨blk_frozen ((hg.block _ hxl nX).trans XB.out) 2, (hkeep w1 hg).1⟩
   have HFZ := zA hfz
   have hkq : ∀ (w1 : World), wr.drew.grownBy w1 tv.ownBlock → ∀ v, (w1.setCell ⟨w.heap.size + 1, 2, none⟩ v).cell? ⟨B, 2, none⟩ = some (.slice (some ⟨g, 0, none⟩) vs.length cap) ∧ (w1.setCell ⟨w.heap.size + 1, 2, none⟩ v).cell? ⟨g, i * 2, none⟩ = some (.int .i64 (rd_T27 vs (i : Int)).f0) ∧ (w1.setCell ⟨w.heap.size + 1, 2, none⟩ v).cell? ⟨g, i * 2 + 1, none⟩ = some (.int .i64 (rd_T27 vs (i : Int)).f1) := by
    intro w1 hg v
    obtain ⟨_, q1, q2, q3⟩ := hkeep w1 hg
    have n1 : B ≠ w.heap.size + 1 := fun e => by have h1 := HT.out.head; have h2 := XB.out; rw [e, h2] at h1; injection h1 with h1; injection h1 with _ h1; cases h1
    have n2 : g ≠ w.heap.size + 1 := fun e => by have h2 := XB.out; rw [e, h2] at hcg; injection hcg with h1; injection h1 with _ h1; cases h1
    exact ⟨(World.cell?_setCell_other _ _ _ _ (by simp [n1.symm])).trans q1, (World.cell?_setCell_other _ _ _ _ (by simp [n2.symm])).trans q2, (World.cell?_setCell_other _ _ _ _ (by simp [n2.symm])).trans q3⟩
   have nR := Kd.R_ne TR.out RB.out (by decide)
   have HNE := zA (show some (w.heap.size + 1) ≠ tv.ownBlock ∧ some B ≠ tv.ownBlock ∧ some g ≠ tv.ownBlock ∧ some w.heap.size ≠ tv.ownBlock ∧ B ≠ w.heap.size + 1 ∧ g ≠ w.heap.size + 1 from ⟨nX, nB, ng, nR, (fun e => by have h1 := HT.out.head; have h2 := XB.out; rw [e, h2] at h1; injection h1 with h1; injection h1 with _ h1; cases h1), (fun e => by have h2 := XB.out; rw [e, h2] at hcg; injection hcg with h1; injection h1 with _ h1; cases h1)⟩)
   clear nR
   have HKQ := zA hkq
   have HKP := zA hkeep
   have hN1 := World.new_ne wr _ XC
   have hN2 := World.new_ne wr _ x2
   have hN3 := World.new_ne wr _ v0
   clear hkeep hkq hcg ng nX nB hfz
   go_wp2
   ·refine wp_region_noPanic ?_
    refine wp_region_held_drew (S := (fun w' => w'.cell? ⟨B, 2, none⟩ = some (.slice (some ⟨g, 0, none⟩) vs.length cap) ∧ w'.cell? ⟨g, i * 2, none⟩ = some (.int .i64 (rd_T27 vs (i : Int)).f0) ∧ w'.cell? ⟨g, i * 2 + 1, none⟩ = some (.int .i64 (rd_T27 vs (i : Int)).f1))) (by kernel_rfl) ?_ (fun hHeld => ?_)
    ·(try dsimp only)
     (go_keep)
    refine wpAnyH_take (i := 0) (v := ?v100) rfl (by kernel_rfl) (by kernel_rfl) (by kernel_rfl) (fun _ _ _ h => h) (Or.inl ⟨by rfl, ?hy100⟩) (by assumption) ?rest100
    case hy100 => (intro w hSw; (try dsimp only at hSw); go_simp; try (with_reducible rfl))
    (try simp only [Act.put, List.setIfInBounds_toArray, List.set])
    refine wpAnyH_take (i := 2) (v := ?v202) rfl (by kernel_rfl) (by kernel_rfl) (by kernel_rfl) (fun _ _ _ h => h) (Or.inl ⟨by rfl, ?hy202⟩) (by assumption) ?rest202
    case hy202 => (intro w hSw; (try dsimp only at hSw); go_simp; try (with_reducible rfl))
    (try simp only [Act.put, List.setIfInBounds_toArray, List.set])
    refine wpAnyH_take (i := 3) (v := ?v303) rfl (by kernel_rfl) (by kernel_rfl) (by kernel_rfl) (fun _ _ _ h => h) (Or.inl ⟨by rfl, ?hy303⟩) (by assumption) ?rest303
    case hy303 => (intro w hSw; (try dsimp only at hSw); go_simp; try (with_reducible rfl))
    (try simp only [Act.put, List.setIfInBounds_toArray, List.set])
    refine wpAnyH_take (i := 4) (v := ?v404) rfl (by kernel_rfl) (by kernel_rfl) (by kernel_rfl) (fun _ _ _ h => h) (Or.inl ⟨by rfl, ?hy404⟩) (by assumption) ?rest404
    case hy404 => (intro w hSw; (try dsimp only at hSw); go_simp; try (with_reducible rfl))
    (try simp only [Act.put, List.setIfInBounds_toArray, List.set])
    refine wpAnyH_take (i := 5) (v := ?v505) rfl (by kernel_rfl) (by kernel_rfl) (by kernel_rfl) (fun _ _ _ h => h) (Or.inl ⟨by rfl, ?hy505⟩) (by assumption) ?rest505
    case hy505 => (intro w hSw; (try dsimp only at hSw); go_simp; try (with_reducible rfl))
    (try simp only [Act.put, List.setIfInBounds_toArray, List.set])
    refine wpAnyH_take (i := 6) (v := ?v606) rfl (by kernel_rfl) (by kernel_rfl) (by kernel_rfl) (fun _ _ _ h => h) (Or.inl ⟨by rfl, ?hy606⟩) (by assumption) ?rest606
    case hy606 => (intro w hSw; (try dsimp only at hSw); go_simp; try (with_reducible rfl))
    (try simp only [Act.put, List.setIfInBounds_toArray, List.set])
    refine wpAnyH_take (i := 7) (v := ?v707) rfl (by kernel_rfl) (by kernel_rfl) (by kernel_rfl) (fun _ _ _ h => h) (Or.inl ⟨by rfl, ?hy707⟩) (by assumption) ?rest707
    case hy707 => (intro w hSw; (try dsimp only at hSw); go_simp; try (with_reducible rfl))
    (try simp only [Act.put, List.setIfInBounds_toArray, List.set])
    refine wpAnyH_take (i := 8) (v := ?v808) rfl (by kernel_rfl) (by kernel_rfl) (by kernel_rfl) (fun _ _ _ h => h) (Or.inl ⟨by rfl, ?hy808⟩) (by assumption) ?rest808
    case hy808 => (intro w hSw; (try dsimp only at hSw); go_simp; try (with_reducible rfl))
    (try simp only [Act.put, List.setIfInBounds_toArray, List.set])
    refine wpAnyH_take (i := 9) (v := ?v909) rfl (by kernel_rfl) (by kernel_rfl) (by kernel_rfl) (fun _ _ _ h => h) (Or.inl ⟨by rfl, ?hy909⟩) (by assumption) ?rest909
    case hy909 => (intro w hSw; (try dsimp only at hSw); go_simp; try (with_reducible rfl))
    (try simp only [Act.put, List.setIfInBounds_toArray, List.set])
    refine wpAnyH_take (i := 10) (v := ?v1010) rfl (by kernel_rfl) (by kernel_rfl) (by kernel_rfl) (fun _ _ _ h => h) (Or.inl ⟨by rfl, ?hy1010⟩) (by assumption) ?rest1010
    case hy1010 => (intro w hSw; (try dsimp only at hSw); go_simp; try (with_reducible rfl))
    (try simp only [Act.put, List.setIfInBounds_toArray, List.set])
    refine wpAnyH_ready (rs := [1, 11]) (by kernel_rfl) (by simp) ?_
    refine AllReadyH.cons rfl (fun K hK => ?_) (AllReadyH.cons rfl (fun K hK => ?_) AllReadyH.nil)
    go_simp
    refine hK.out _ _ ?_ (fun hHeld => ?_)
    ·(try dsimp only)
     (go_keep)
    clear hK K
    (try simp only [Act.put, List.setIfInBounds_toArray, List.set])
    refine wpAnyH_ready (rs := [11]) (by kernel_rfl) (by simp) ?_
    refine AllReadyH.cons rfl (fun K hK => ?_) AllReadyH.nil
    go_simp
    refine hK.out _ _ ?_ (fun hHeld => ?_)
    ·(try dsimp only)
     (go_keep)
    clear hK K
    (try simp only [Act.put, List.setIfInBounds_toArray, List.set])
    refine wpAnyH_ready (rs := [12]) (by kernel_rfl) (by simp) ?_
    refine AllReadyH.cons rfl (fun K hK => ?_) AllReadyH.nil
    refine Kd.R_append_step k89 (w0 := w) (W := wr.drew) w.heap.size (by rfl) (.tmp 40) (.tmp 50) 30 89 (.agg #[(.string ⟨#[]⟩), (.int .i64 0), (.int .i64 0)]) 32 rfl Try.underlying30 infoT rfl (by decide) (by omega) tv (termsOf ws vs i) ⟨rdOf ByteArray.empty ws (i : Int), rd_T27 vs (i : Int)⟩ [.string (rdOf ByteArray.empty ws (i : Int)), .int .i64 (rd_T27 vs (i : Int)).f0, .int .i64 (rd_T27 vs (i : Int)).f1] (fun _ => True) (fun _ => False) rfl rfl ?aP (fun _ hk => hk.elim) ?aF ?aO ?aB ?aS ?aL ?_; (case aP => exact k89_mkM _ _ _ _); (case aF => exact (fun _ _ => trivial)); (case aO => exact Kd.R_drew TR.out); (case aB => exact below_drew BB.out); (case aS => exact hsm); (case aL => omega); intro v1 w1 ho hb hg hat; obtain ⟨hz1, hz2⟩ := HFZ.out _ hg; obtain ⟨A1, c1, rfl⟩ := Kd.R_slice ho
    refine hK.out _ _ ?_ (fun hHeld => ?_)
    ·(try dsimp only)
     (exact (HKP.out _ hg).2)
    clear hK K
    (try simp only [Act.put, List.setIfInBounds_toArray, List.set])
    refine wpAnyH_take (i := 13) (v := ?v1113) rfl (by kernel_rfl) (by kernel_rfl) (by kernel_rfl) (fun _ _ _ h => h) (Or.inl ⟨by rfl, ?hy1113⟩) (by assumption) ?rest1113
    case hy1113 => (intro w hSw; (try dsimp only at hSw); go_simp; try (with_reducible rfl))
    (try simp only [Act.put, List.setIfInBounds_toArray, List.set])
    refine wpAnyH_ready (rs := [14]) (by kernel_rfl) (by simp) ?_
    refine AllReadyH.cons rfl (fun K hK => ?_) AllReadyH.nil
    go_simp
    refine hK.out _ _ ?_ (fun hHeld => ?_)
    ·(try dsimp only)
     (exact HKQ.out _ hg _)
    clear hK K
    (try simp only [Act.put, List.setIfInBounds_toArray, List.set])
    refine wpAnyH_done (by kernel_rfl) ?_ _
    rotate_left
    go_simp
    refine hK.out _ _ ?_ (fun hHeld => ?_)
    ·(try dsimp only)
     (go_keep)
    clear hK K
    (try simp only [Act.put, List.setIfInBounds_toArray, List.set])
    refine wpAnyH_ready (rs := [1]) (by kernel_rfl) (by simp) ?_
    refine AllReadyH.cons rfl (fun K hK => ?_) AllReadyH.nil
    go_simp
    refine hK.out _ _ ?_ (fun hHeld => ?_)
    ·(try dsimp only)
     (go_keep)
    clear hK K
    (try simp only [Act.put, List.setIfInBounds_toArray, List.set])
    refine wpAnyH_ready (rs := [12]) (by kernel_rfl) (by simp) ?_
    refine AllReadyH.cons rfl (fun K hK => ?_) AllReadyH.nil
    refine Kd.R_append_step k89 (w0 := w) (W := wr.drew) w.heap.size (by rfl) (.tmp 40) (.tmp 50) 30 89 (.agg #[(.string ⟨#[]⟩), (.int .i64 0), (.int .i64 0)]) 32 rfl Try.underlying30 infoT rfl (by decide) (by omega) tv (termsOf ws vs i) ⟨rdOf ByteArray.empty ws (i : Int), rd_T27 vs (i : Int)⟩ [.string (rdOf ByteArray.empty ws (i : Int)), .int .i64 (rd_T27 vs (i : Int)).f0, .int .i64 (rd_T27 vs (i : Int)).f1] (fun _ => True) (fun _ => False) rfl rfl ?aP2 (fun _ hk => hk.elim) ?aF2 ?aO2 ?aB2 ?aS2 ?aL2 ?_; (case aP2 => exact k89_mkM _ _ _ _); (case aF2 => exact (fun _ _ => trivial)); (case aO2 => exact Kd.R_drew TR.out); (case aB2 => exact below_drew BB.out); (case aS2 => exact hsm); (case aL2 => omega); intro v1 w1 ho hb hg hat; obtain ⟨hz1, hz2⟩ := HFZ.out _ hg; obtain ⟨A1, c1, rfl⟩ := Kd.R_slice ho
    refine hK.out _ _ ?_ (fun hHeld => ?_)
    ·(try dsimp only)
     (exact (HKP.out _ hg).2)
    clear hK K
    (try simp only [Act.put, List.setIfInBounds_toArray, List.set])
    refine wpAnyH_take (i := 13) (v := ?v1213) rfl (by kernel_rfl) (by kernel_rfl) (by kernel_rfl) (fun _ _ _ h => h) (Or.inl ⟨by rfl, ?hy1213⟩) (by assumption) ?rest1213
    case hy1213 => (intro w hSw; (try dsimp only at hSw); go_simp; try (with_reducible rfl))
    (try simp only [Act.put, List.setIfInBounds_toArray, List.set])
    refine wpAnyH_ready (rs := [14]) (by kernel_rfl) (by simp) ?_
    refine AllReadyH.cons rfl (fun K hK => ?_) AllReadyH.nil
    go_simp
    refine hK.out _ _ ?_ (fun hHeld => ?_)
    ·(try dsimp only)
     (exact HKQ.out _ hg _)
    clear hK K
    (try simp only [Act.put, List.setIfInBounds_toArray, List.set])
    refine wpAnyH_done (by kernel_rfl) ?_ _
    all_goals (refine NoPanic.normal ?_)
    all_goals go_wp2
    all_goals
     have hz : ((rd_T27 vs (i : Int)).f0 != 0) = true := by assumption
     obtain ⟨m1, m2, m3, m4, m5, m6⟩ := HNE.out
     have hx1 := (hg.block _ hxl m1).trans XB.out
     have hrl := (Array.getElem?_eq_some_iff.1 RB.out).1
     refine ⟨⟨i + 1, _, by omega, by go_num, ⟨HT.out.move (fun k hk => ?_)⟩, ⟨(Below.heap_setCell w1 ⟨w.heap.size + 1, 2, none⟩ _ w.heap.size (by simp)).trans ((hg.block _ hrl m4).trans RB.out)⟩, ⟨blk_put hx1 2 _ rfl⟩, ⟨?_⟩, ⟨?_⟩, ⟨below_set hb (by omega)⟩⟩, by simp [intOf]; omega⟩
     ·rcases hk with rfl | rfl
      ·exact (Below.heap_setCell w1 ⟨w.heap.size + 1, 2, none⟩ _ _ m5).trans (hg.block _ hbl m2)
      ·exact (Below.heap_setCell w1 ⟨w.heap.size + 1, 2, none⟩ _ _ m6).trans (hg.block _ hgl m3)
     ·rw [termsOf_succ, if_neg (by simpa using hz)]
      have := Kd.R_set ho hx1 (by decide) 2 (.slice A1 ((termsOf ws vs i).length + 1) c1)
      simpa using this
     ·exact Kd.R_set (Kd.R_over' (Kd.R_drew WR.out) (Kd.R_typed (Kd.R_drew TR.out)) (by decide) hg) hx1 (by decide) 2 _
   ·rename_i hz
    refine ⟨⟨i + 1, tv, by omega, by go_num, HT, RB, XB, ⟨?_⟩, WR, BB⟩, by simp [intOf]; omega⟩
    rw [termsOf_succ, if_pos (by simpa using hz), List.append_nil]
    exact TR.out
  ·obtain rfl : i = ws.length := by omega
   obtain ⟨At, ct, rfl⟩ := Kd.R_slice TR.out
   have c0 : wr.cell? ⟨w.heap.size + 1, 0, none⟩ = some (.int .i64 d) := (blk_cell XB.out 0).trans rfl
   have c1 : wr.cell? ⟨w.heap.size + 1, 1, none⟩ = some (.int .i64 n) := (blk_cell XB.out 1).trans rfl
   have c2 : wr.cell? ⟨w.heap.size + 1, 2, none⟩ = some (.slice At (termsOf ws vs ws.length).length ct) := (blk_cell XB.out 2).trans rfl
   have r0 : wr.cell? ⟨w.heap.size, 0, none⟩ = some (.int .i64 0) := (blk_cell RB.out 0).trans rfl
   have r1 : wr.cell? ⟨w.heap.size, 1, none⟩ = some (.int .i64 0) := (blk_cell RB.out 1).trans rfl
   have r2 : wr.cell? ⟨w.heap.size, 2, none⟩ = some (.slice none 0 0) := (blk_cell RB.out 2).trans rfl
   have f0 := blk_frozen RB.out 0
   have f1 := blk_frozen RB.out 1
   have f2 := blk_frozen RB.out 2
   go_wp2
   refine bodyPost_ret (results_cell_row rfl _ _ w.heap.size 32 #[.int .i64 d, .int .i64 n, .slice At (termsOf ws vs ws.length).length ct] (0, 0) _ rfl (blk_put (cs := #[.int .i64 d, .int .i64 n, .slice none 0 0]) (blk_put (cs := #[.int .i64 d, .int .i64 0, .slice none 0 0]) (blk_put (cs := #[.int .i64 0, .int .i64 0, .slice none 0 0]) RB.out 0 _ rfl) 1 _ rfl) 2 _ rfl) Try.underlying32 rfl (by kernel_rfl)) rfl ?_
   have q0 := RB.out
   have q1 := blk_put (cs' := #[.int .i64 d, .int .i64 0, .slice none 0 0]) q0 0 (.int .i64 d) rfl
   have q2 := blk_put (cs' := #[.int .i64 d, .int .i64 n, .slice none 0 0]) q1 1 (.int .i64 n) rfl
   exact ⟨_, rfl, Kd.R_set (Kd.R_set (Kd.R_set TR.out q0 (by decide) 0 _) q1 (by decide) 1 _) q2 (by decide) 2 _, below_set (below_set (below_set BB.out (Nat.le_refl _)) (Nat.le_refl _)) (Nat.le_refl _)⟩
/-- All blocks but B and g are as they were. -/
def Touch2 (w w' : World) (B g : Nat) : Prop := w.heap.size ≤ w'.heap.size ∧ ∀ k, k < w.heap.size → k ≠ B → k ≠ g → w'.heap[k]? = w.heap[k]?
theorem Touch2.trans {w w' w'' : World} {B g : Nat} (h : Touch2 w w' B g) (h' : Touch2 w' w'' B g) : Touch2 w w'' B g := ⟨Nat.le_trans h.1 h'.1, fun k hk h1 h2 => (h'.2 k (Nat.lt_of_lt_of_le hk h.1) h1 h2).trans (h.2 k hk h1 h2)⟩
theorem Touch2.of_below {w w' : World} (B g : Nat) (h : Below w.heap.size w w') : Touch2 w w' B g := ⟨h.size, fun k hk _ _ => h.block k hk⟩
theorem Touch2.of_touch {w w' : World} {B : Nat} (g : Nat) (h : Touch w w' B) : Touch2 w w' B g := ⟨h.1, fun k hk h1 _ => h.2 k hk h1⟩
theorem Touch2.set (w : World) (B g j : Nat) (v : Value) : Touch2 w (w.setCell ⟨g, j, none⟩ v) B g := ⟨by simp, fun k _ _ hne => Below.heap_setCell w ⟨g, j, none⟩ v k hne⟩
theorem keep_far {w : World} {B g A j j' : Nat} {u v0 v1 x y : Value} (hB : B ≠ g) (hA : A ≠ g) (h : w.cell? ⟨B, 2, none⟩ = some u ∧ w.cell? ⟨A, 0, none⟩ = some v0 ∧ w.cell? ⟨A, 1, none⟩ = some v1) :
 ((w.setCell ⟨g, j, none⟩ x).setCell ⟨g, j', none⟩ y).cell? ⟨B, 2, none⟩ = some u ∧ ((w.setCell ⟨g, j, none⟩ x).setCell ⟨g, j', none⟩ y).cell? ⟨A, 0, none⟩ = some v0 ∧ ((w.setCell ⟨g, j, none⟩ x).setCell ⟨g, j', none⟩ y).cell? ⟨A, 1, none⟩ = some v1 := by
 have e : ∀ k, k ≠ g → ((w.setCell ⟨g, j, none⟩ x).setCell ⟨g, j', none⟩ y).heap[k]? = w.heap[k]? := fun k hk => (Below.heap_setCell _ ⟨g, j', none⟩ _ k hk).trans (Below.heap_setCell w ⟨g, j, none⟩ _ k hk)
 exact ⟨(cell_of_block (e B hB)).trans h.1, (cell_of_block (e A hA)).trans h.2.1, (cell_of_block (e A hA)).trans h.2.2⟩
/-- What an added value makes of a table. -/
def addV (vs : List S27) (i : Nat) (s0 s1 : Int) (fits : Bool) : List S27 := vs.set i ⟨sel fits s0 0, sel fits s1 1⟩
set_option maxHeartbeats 16000000 in
set_option maxRecDepth 100000 in
theorem add (k : Nat) (base B g cap : Nat) (d n : Int) (vs : List S27) (bad : Bool) (word : ByteArray) (i : Nat) (a0 a1 s0 s1 : Int) (fits : Bool) (hi : impl_number.f k d word = some (i : Int)) (hlt : i < vs.length)
 (hs : impl_Fraction_plus.f k (rd_T27 vs (i : Int)).f0 (rd_T27 vs (i : Int)).f1 a0 a1 = some (s0, s1, fits)) (w : World) (h : Tab w base B g cap d n vs bad) :
 Calls Try.prog 95 #[.pointer (some ⟨B, 0, none⟩), .string word, .agg #[.int .i64 a0, .int .i64 a1]] w fun e w' => e = .returned (.tuple #[]) ∧ Tab w' base B g cap d n (addV vs i s0 s1 fits) (bad || !fits) ∧ Touch2 w w' B g ∧ ∀ b, b ≤ B → b ≤ g → Below b w w' := by
 have HT := zA h
 have HI := zA hi
 have HS := zA hs
 have b1 := below_alloc (Below.refl w.heap.size w) (.cells #[.int .i64 a0, .int .i64 a1] 27)
 have AB0 := zA (blk_new w (.cells #[.int .i64 a0, .int .i64 a1] 27))
 have HB0 := zA b1
 have hsz : (w.alloc (.cells #[.int .i64 a0, .int .i64 a1] 27)).heap.size = w.heap.size + 1 := by simp
 clear h hi hs b1
 have HT0 := zA (HT.out.below HB0.out)
 have hBA : B < w.heap.size := HT.out.ltB
 have hgA : g < w.heap.size := HT.out.lt
 have x0 := HT0.out.cells.1
 go_enter Try.func95, Try.ntmps95
 go_wp2_with (go_at_call 141; refine (impl_number.calls k d word (i : Int) _ HI.out).mono ?_; rintro e w1 ⟨rfl, hd1⟩; have hb1 := of_drawn hd1; have HT1 := zA (HT0.out.below hb1); have AB1 := zA ((hb1.block w.heap.size (by omega)).trans AB0.out); have HB1 := zA (below_step HB0.out hb1); have hAl : w.heap.size < w1.heap.size := (Array.getElem?_eq_some_iff.1 AB1.out).1; clear hb1)
 clear x0
 generalize hAe : w.heap.size = A at AB1 hBA hgA hAl ⊢
 obtain ⟨x0, x1, x2, x3⟩ := HT1.out.cells
 obtain ⟨v0, v1, vf⟩ := HT1.out.val (i : Int) (by omega) (by omega)
 rw [Int.toNat_natCast] at v0 v1
 have r0 : w1.cell? ⟨A, 0, none⟩ = some (.int .i64 a0) := (blk_cell AB1.out 0).trans rfl
 have r1 : w1.cell? ⟨A, 1, none⟩ = some (.int .i64 a1) := (blk_cell AB1.out 1).trans rfl
 have p1 : (0 ≤ (i : Int)) = True := eq_true (by omega)
 have p2 : ((i : Int) < (vs.length : Int)) = True := eq_true (by omega)
 have p3 : (i < vs.length) = True := eq_true hlt
 have hK1 : ∀ W7 : World, Below w1.heap.size w1 W7 → W7.cell? ⟨B, 2, none⟩ = some (.slice (some ⟨g, 0, none⟩) vs.length cap) ∧ W7.cell? ⟨A, 0, none⟩ = some (.int .i64 a0) ∧ W7.cell? ⟨A, 1, none⟩ = some (.int .i64 a1) := fun W7 hb => ⟨pw_cell_below hb x2, pw_cell_below hb r0, pw_cell_below hb r1⟩
 have HK1 := zA hK1
 clear hK1 x0 x1 x3 vf
 refine wp_region_noPanic ?_
 refine wp_region_held_drew (S := (fun w' => w'.cell? ⟨B, 2, none⟩ = some (.slice (some ⟨g, 0, none⟩) vs.length cap) ∧ w'.cell? ⟨A, 0, none⟩ = some (.int .i64 a0) ∧ w'.cell? ⟨A, 1, none⟩ = some (.int .i64 a1))) (by kernel_rfl) ?_ (fun hHeld => ?_)
 ·(try dsimp only)
  (exact HK1.out _ (below_drew (Below.refl _ _)))
 refine wpAnyH_take (i := 0) (v := ?v0) rfl (by kernel_rfl) (by kernel_rfl) (by kernel_rfl) (fun _ _ _ h => h) (Or.inl ⟨by rfl, ?hy0⟩) (by assumption) ?rest0
 case hy0 => (intro w hSw; (try dsimp only at hSw); go_simp; try (with_reducible rfl))
 (try simp only [Act.put, List.setIfInBounds_toArray, List.set])
 refine wpAnyH_take (i := 1) (v := ?v1) rfl (by kernel_rfl) (by kernel_rfl) (by kernel_rfl) (fun _ _ _ h => h) (Or.inl ⟨by rfl, ?hy1⟩) (by assumption) ?rest1
 case hy1 => (intro w hSw; (try dsimp only at hSw); go_simp; try (with_reducible rfl))
 (try simp only [Act.put, List.setIfInBounds_toArray, List.set])
 refine wpAnyH_take (i := 2) (v := ?v2) rfl (by kernel_rfl) (by kernel_rfl) (by kernel_rfl) (fun _ _ _ h => h) (Or.inl ⟨by rfl, ?hy2⟩) (by assumption) ?rest2
 case hy2 => (intro w hSw; (try dsimp only at hSw); go_simp; try (with_reducible rfl))
 (try simp only [Act.put, List.setIfInBounds_toArray, List.set])
 refine wpAnyH_take (i := 3) (v := ?v3) rfl (by kernel_rfl) (by kernel_rfl) (by kernel_rfl) (fun _ _ _ h => h) (Or.inl ⟨by rfl, ?hy3⟩) (by assumption) ?rest3
 case hy3 => (intro w hSw; (try dsimp only at hSw); go_simp; try (with_reducible rfl))
 (try simp only [Act.put, List.setIfInBounds_toArray, List.set])
 refine wpAnyH_take (i := 4) (v := ?v4) rfl (by kernel_rfl) (by kernel_rfl) (by kernel_rfl) (fun _ _ _ h => h) (Or.inl ⟨by rfl, ?hy4⟩) (by assumption) ?rest4
 case hy4 => (intro w hSw; (try dsimp only at hSw); go_simp; try (with_reducible rfl))
 (try simp only [Act.put, List.setIfInBounds_toArray, List.set])
 refine wpAnyH_take (i := 5) (v := ?v5) rfl (by kernel_rfl) (by kernel_rfl) (by kernel_rfl) (fun _ _ _ h => h) (Or.inl ⟨by rfl, ?hy5⟩) (by assumption) ?rest5
 case hy5 => (intro w hSw; (try dsimp only at hSw); go_simp; try (with_reducible rfl))
 (try simp only [Act.put, List.setIfInBounds_toArray, List.set])
 refine wpAnyH_take (i := 6) (v := ?v6) rfl (by kernel_rfl) (by kernel_rfl) (by kernel_rfl) (fun _ _ _ h => h) (Or.inl ⟨by rfl, ?hy6⟩) (by assumption) ?rest6
 case hy6 => (intro w hSw; (try dsimp only at hSw); go_simp; try (with_reducible rfl))
 (try simp only [Act.put, List.setIfInBounds_toArray, List.set])
 refine wpAnyH_take (i := 7) (v := ?v7) rfl (by kernel_rfl) (by kernel_rfl) (by kernel_rfl) (fun _ _ _ h => h) (Or.inl ⟨by rfl, ?hy7⟩) (by assumption) ?rest7
 case hy7 => (intro w hSw; (try dsimp only at hSw); go_simp; try (with_reducible rfl))
 (try simp only [Act.put, List.setIfInBounds_toArray, List.set])
 refine wpAnyH_take (i := 8) (v := ?v8) rfl (by kernel_rfl) (by kernel_rfl) (by kernel_rfl) (fun _ _ _ h => h) (Or.inl ⟨by rfl, ?hy8⟩) (by assumption) ?rest8
 case hy8 => (intro w hSw; (try dsimp only at hSw); go_simp; try (with_reducible rfl))
 (try simp only [Act.put, List.setIfInBounds_toArray, List.set])
 refine wpAnyH_take (i := 9) (v := ?v9) rfl (by kernel_rfl) (by kernel_rfl) (by kernel_rfl) (fun _ _ _ h => h) (Or.inl ⟨by rfl, ?hy9⟩) (by assumption) ?rest9
 case hy9 => (intro w hSw; (try dsimp only at hSw); go_simp; try (with_reducible rfl))
 (try simp only [Act.put, List.setIfInBounds_toArray, List.set])
 refine wpAnyH_take (i := 10) (v := ?v10) rfl (by kernel_rfl) (by kernel_rfl) (by kernel_rfl) (fun _ _ _ h => h) (Or.inl ⟨by rfl, ?hy10⟩) (by assumption) ?rest10
 case hy10 => (intro w hSw; (try dsimp only at hSw); go_simp; try (with_reducible rfl))
 (try simp only [Act.put, List.setIfInBounds_toArray, List.set])
 refine wpAnyH_take (i := 11) (v := ?v11) rfl (by kernel_rfl) (by kernel_rfl) (by kernel_rfl) (fun _ _ _ h => h) (Or.inl ⟨by rfl, ?hy11⟩) (by assumption) ?rest11
 case hy11 => (intro w hSw; (try dsimp only at hSw); go_simp; try (with_reducible rfl))
 (try simp only [Act.put, List.setIfInBounds_toArray, List.set])
 refine wpAnyH_take (i := 13) (v := ?v12) rfl (by kernel_rfl) (by kernel_rfl) (by kernel_rfl) (fun _ _ _ h => h) (Or.inl ⟨by rfl, ?hy12⟩) (by assumption) ?rest12
 case hy12 => (intro w hSw; (try dsimp only at hSw); go_simp; try (with_reducible rfl))
 (try simp only [Act.put, List.setIfInBounds_toArray, List.set])
 refine wpAnyH_ready (rs := [12]) (by kernel_rfl) (by simp) ?_
 refine AllReadyH.cons rfl (fun K hK => ?_) AllReadyH.nil
 go_simp
 refine hK.out _ _ ?_ (fun hHeld => ?_)
 ·(try dsimp only)
  (exact HK1.out _ (below_drew (Below.refl _ _)))
 clear hK K
 (try simp only [Act.put, List.setIfInBounds_toArray, List.set])
 refine wpAnyH_ready (rs := [14]) (by kernel_rfl) (by simp) ?_
 refine AllReadyH.cons rfl (fun K hK => ?_) AllReadyH.nil
 go_simp
 (go_at_call 115; refine (impl_Fraction_plus.calls k _ _ a0 a1 s0 s1 fits _ HS.out).mono ?_; rintro e w7 ⟨rfl, hb7⟩)
 refine hK.out _ _ ?_ (fun hHeld => ?_)
 ·(try dsimp only)
  (exact HK1.out _ (below_step (below_drew (Below.refl _ _)) hb7))
 clear hK K
 (try simp only [Act.put, List.setIfInBounds_toArray, List.set])
 refine wpAnyH_take (i := 15) (v := ?v13) rfl (by kernel_rfl) (by kernel_rfl) (by kernel_rfl) (fun _ _ _ h => h) (Or.inl ⟨by rfl, ?hy13⟩) (by assumption) ?rest13
 case hy13 => (intro w hSw; (try dsimp only at hSw); go_simp; try (with_reducible rfl))
 (try simp only [Act.put, List.setIfInBounds_toArray, List.set])
 refine wpAnyH_take (i := 16) (v := ?v14) rfl (by kernel_rfl) (by kernel_rfl) (by kernel_rfl) (fun _ _ _ h => h) (Or.inl ⟨by rfl, ?hy14⟩) (by assumption) ?rest14
 case hy14 => (intro w hSw; (try dsimp only at hSw); go_simp; try (with_reducible rfl))
 (try simp only [Act.put, List.setIfInBounds_toArray, List.set])
 refine wpAnyH_ready (rs := [17]) (by kernel_rfl) (by simp) ?_
 refine AllReadyH.cons rfl (fun K hK => ?_) AllReadyH.nil
 go_simp
 (go_at_call 142; refine (check s0 s1 fits base B g cap d n _ _ _ ((HT1.out.below (below_drew (Below.refl _ _))).below hb7)).mono ?_; rintro e w8 ⟨rfl, ht8, hto8, hbb8⟩; have n7 := HK1.out _ (below_step (below_drew (Below.refl _ _)) hb7); have q2 := ht8.cells.2.2.1; have hA7 : A < w7.heap.size := Nat.lt_of_lt_of_le hAl hb7.size; have eA := hto8.2 A hA7 (Nat.ne_of_gt hBA); have hq8 : w8.cell? ⟨B, 2, none⟩ = some (.slice (some ⟨g, 0, none⟩) vs.length cap) ∧ w8.cell? ⟨A, 0, none⟩ = some (.int .i64 a0) ∧ w8.cell? ⟨A, 1, none⟩ = some (.int .i64 a1) := ⟨q2, (cell_of_block eA).trans n7.2.1, (cell_of_block eA).trans n7.2.2⟩; obtain ⟨gv0, gv1, gvf⟩ := ht8.val (i : Int) (by omega) (by omega); rw [Int.toNat_natCast] at gv0 gv1; have gf0 := gvf (i * 2); have gf1 := gvf (i * 2 + 1); have hq9 := keep_far (x := .int .i64 (sel fits s0 0)) (y := .int .i64 (sel fits s1 1)) (j := i * 2) (j' := i * 2 + 1) ht8.ne (Nat.ne_of_gt hgA) hq8; clear n7 q2 eA gvf)
 refine hK.out _ _ ?_ (fun hHeld => ?_)
 ·(try dsimp only)
  (exact hq8)
 clear hK K
 (try simp only [Act.put, List.setIfInBounds_toArray, List.set])
 refine wpAnyH_take (i := 18) (v := ?v15) rfl (by kernel_rfl) (by kernel_rfl) (by kernel_rfl) (fun _ _ _ h => h) (Or.inl ⟨by rfl, ?hy15⟩) (by assumption) ?rest15
 case hy15 => (intro w hSw; (try dsimp only at hSw); go_simp; try (with_reducible rfl))
 (try simp only [Act.put, List.setIfInBounds_toArray, List.set])
 refine wpAnyH_ready (rs := [19]) (by kernel_rfl) (by simp) ?_
 refine AllReadyH.cons rfl (fun K hK => ?_) AllReadyH.nil
 go_simp
 refine hK.out _ _ ?_ (fun hHeld => ?_)
 ·(try dsimp only)
  (exact hq9)
 clear hK K
 (try simp only [Act.put, List.setIfInBounds_toArray, List.set])
 refine wpAnyH_done (by kernel_rfl) ?_ _
 refine NoPanic.normal ?_
 go_wp2
 refine bodyPost_end (results_none rfl _ _ _) rfl ?_
 have hp := ht8.put (i : Int) (by omega) (by omega) (sel fits s0 0) (sel fits s1 1)
 rw [Int.toNat_natCast] at hp
 refine ⟨rfl, hp, ?_, fun b hb hg => ?_⟩
 ·refine Touch2.trans (Touch2.of_below B g HB1.out) (Touch2.trans (Touch2.of_below B g (below_step (below_drew (Below.refl _ _)) hb7)) (Touch2.trans (Touch2.of_touch g hto8) (Touch2.trans (Touch2.set _ B g _ _) (Touch2.set _ B g _ _))))
 ·have e1 : Below b w w1 := HB1.out.mono (by omega)
  have e2 : Below b w1 w7 := (below_step (below_drew (Below.refl _ _)) hb7).mono (by omega)
  exact (((e1.trans e2).trans (hbb8 b hb)).setCell (p := ⟨g, i * 2, none⟩) hg _).setCell (p := ⟨g, i * 2 + 1, none⟩) hg _
set_option maxHeartbeats 8000000 in
set_option maxRecDepth 100000 in
theorem like (k : Nat) (d n : Int) (ws : List ByteArray) (hk : impl_allWords.f k d n = some ws) (h1 : 1 ≤ ws.length) (h2 : ws.length ≤ 1000) (base B g cap : Nat) (vs : List S27) (bad : Bool) (w : World) (h : Tab w base B g cap d n vs bad) :
    Calls Try.prog 133 #[.pointer (some ⟨B, 0, none⟩)] w fun e w' => ∃ B' g' cap', e = .returned (.pointer (some ⟨B', 0, none⟩)) ∧ Tab w' w.heap.size B' g' cap' d n (List.replicate ws.length ⟨0, 1⟩) false ∧ Below w.heap.size w w' := by
  have HT := zA h
  obtain ⟨x0, x1, x2, x3⟩ := h.cells
  have HK := zA hk
  clear h hk x2 x3
  go_enter Try.func133, Try.ntmps133
  go_wp2
  go_region_held3 (fun w' => w'.cell? ⟨B, 0, none⟩ = some (.int .i64 d) ∧ w'.cell? ⟨B, 1, none⟩ = some (.int .i64 n)) (first | exact ⟨pw_cell_below hb1 x0, pw_cell_below hb1 x1⟩ | go_keep) (first | (go_at_call 85; refine (newTable k d n ws HK.out h1 h2 _).mono ?_; rintro e w1 ⟨B', g', cap', rfl, ht1, hb1⟩))
  all_goals go_wp2
  go_ret
  exact ⟨B', g', cap', rfl, ht1, below_step (below_drew (Below.refl _ _)) hb1⟩
theorem cell_far {w : World} {A b j j' : Nat} {u x : Value} (hb : b ≠ A) (h : w.cell? ⟨b, j, none⟩ = some u) : (w.setCell ⟨A, j', none⟩ x).cell? ⟨b, j, none⟩ = some u := (cell_of_block (Below.heap_setCell w ⟨A, j', none⟩ x b hb)).trans h
set_option maxHeartbeats 8000000 in
set_option maxRecDepth 100000 in
theorem at_ (k : Nat) (base B g cap : Nat) (d n : Int) (vs : List S27) (bad : Bool) (word : ByteArray) (i : Nat) (hi : impl_number.f k d word = some (i : Int)) (hlt : i < vs.length) (w : World) (h : Tab w base B g cap d n vs bad) :
    Calls Try.prog 137 #[.pointer (some ⟨B, 0, none⟩), .string word] w fun e w' => e = .returned (.agg #[.int .i64 (rd_T27 vs (i : Int)).f0, .int .i64 (rd_T27 vs (i : Int)).f1]) ∧ Below w.heap.size w w' := by
  have HT := zA h
  have HI := zA hi
  clear h hi
  have R0 := zA (blk_new w (.cells #[.int .i64 0, .int .i64 0] 27))
  have T1 := zA (HT.out.below (below_alloc (Below.refl _ _) (.cells #[.int .i64 0, .int .i64 0] 27)))
  have b1 := below_alloc (Below.refl w.heap.size w) (.cells #[.int .i64 0, .int .i64 0] 27)
  obtain ⟨x0, x1, x2, x3⟩ := T1.out.cells
  obtain ⟨v0, v1, vf⟩ := T1.out.val (i : Int) (by omega) (by omega)
  rw [Int.toNat_natCast] at v0 v1
  have p1 : (0 ≤ (i : Int)) = True := eq_true (by omega)
  have p2 : ((i : Int) < (vs.length : Int)) = True := eq_true (by omega)
  have p3 : (i < vs.length) = True := eq_true hlt
  have hk1 : ∀ W7 : World, Below (w.alloc (.cells #[.int .i64 0, .int .i64 0] 27)).heap.size (w.alloc (.cells #[.int .i64 0, .int .i64 0] 27)) W7 → W7.cell? ⟨B, 0, none⟩ = some (.int .i64 d) ∧ W7.cell? ⟨B, 2, none⟩ = some (.slice (some ⟨g, 0, none⟩) vs.length cap) ∧ W7.cell? ⟨g, i * 2, none⟩ = some (.int .i64 (rd_T27 vs (i : Int)).f0) ∧ W7.cell? ⟨g, i * 2 + 1, none⟩ = some (.int .i64 (rd_T27 vs (i : Int)).f1) ∧ W7.heap[w.heap.size]? = some (.cells #[.int .i64 0, .int .i64 0] 27 (0, 0)) :=
    fun W7 hb => ⟨pw_cell_below hb x0, pw_cell_below hb x2, pw_cell_below hb v0, pw_cell_below hb v1, (hb.block w.heap.size (by simp)).trans R0.out⟩
  have HK1 := zA hk1
  have HB1 := zA b1
  clear hk1 x1 x3 vf b1
  have hAB : B ≠ w.heap.size := Nat.ne_of_lt HT.out.ltB
  have hAg : g ≠ w.heap.size := Nat.ne_of_lt HT.out.lt
  go_enter Try.func137, Try.ntmps137
  go_wp2
  generalize w.alloc (.cells #[.int .i64 0, .int .i64 0] 27) = W1 at HK1 HB1 T1 R0 x0 x2 v0 v1 ⊢
  refine wp_region_noPanic ?_
  refine wp_region_held_drew (S := (fun w' => w'.cell? ⟨B, 0, none⟩ = some (.int .i64 d) ∧ w'.cell? ⟨B, 2, none⟩ = some (.slice (some ⟨g, 0, none⟩) vs.length cap) ∧ w'.cell? ⟨g, i * 2, none⟩ = some (.int .i64 (rd_T27 vs (i : Int)).f0) ∧ w'.cell? ⟨g, i * 2 + 1, none⟩ = some (.int .i64 (rd_T27 vs (i : Int)).f1))) (by kernel_rfl) ?_ (fun hHeld => ?_)
  · (try dsimp only)
    (exact ⟨(HK1.out _ (below_drew (Below.refl _ _))).1, (HK1.out _ (below_drew (Below.refl _ _))).2.1, (HK1.out _ (below_drew (Below.refl _ _))).2.2.1, (HK1.out _ (below_drew (Below.refl _ _))).2.2.2.1⟩)
  refine wpAnyH_take (i := 0) (v := ?v0) rfl (by kernel_rfl) (by kernel_rfl) (by kernel_rfl) (fun _ _ _ h => h) (Or.inl ⟨by rfl, ?hy0⟩) (by assumption) ?rest0
  case hy0 => (intro w hSw; (try dsimp only at hSw); go_simp; try (with_reducible rfl))
  (try simp only [Act.put, List.setIfInBounds_toArray, List.set])
  refine wpAnyH_take (i := 1) (v := ?v1) rfl (by kernel_rfl) (by kernel_rfl) (by kernel_rfl) (fun _ _ _ h => h) (Or.inl ⟨by rfl, ?hy1⟩) (by assumption) ?rest1
  case hy1 => (intro w hSw; (try dsimp only at hSw); go_simp; try (with_reducible rfl))
  (try simp only [Act.put, List.setIfInBounds_toArray, List.set])
  refine wpAnyH_take (i := 2) (v := ?v2) rfl (by kernel_rfl) (by kernel_rfl) (by kernel_rfl) (fun _ _ _ h => h) (Or.inl ⟨by rfl, ?hy2⟩) (by assumption) ?rest2
  case hy2 => (intro w hSw; (try dsimp only at hSw); go_simp; try (with_reducible rfl))
  (try simp only [Act.put, List.setIfInBounds_toArray, List.set])
  refine wpAnyH_take (i := 3) (v := ?v3) rfl (by kernel_rfl) (by kernel_rfl) (by kernel_rfl) (fun _ _ _ h => h) (Or.inl ⟨by rfl, ?hy3⟩) (by assumption) ?rest3
  case hy3 => (intro w hSw; (try dsimp only at hSw); go_simp; try (with_reducible rfl))
  (try simp only [Act.put, List.setIfInBounds_toArray, List.set])
  refine wpAnyH_take (i := 4) (v := ?v4) rfl (by kernel_rfl) (by kernel_rfl) (by kernel_rfl) (fun _ _ _ h => h) (Or.inl ⟨by rfl, ?hy4⟩) (by assumption) ?rest4
  case hy4 => (intro w hSw; (try dsimp only at hSw); go_simp; try (with_reducible rfl))
  (try simp only [Act.put, List.setIfInBounds_toArray, List.set])
  refine wpAnyH_take (i := 5) (v := ?v5) rfl (by kernel_rfl) (by kernel_rfl) (by kernel_rfl) (fun _ _ _ h => h) (Or.inl ⟨by rfl, ?hy5⟩) (by assumption) ?rest5
  case hy5 => (intro w hSw; (try dsimp only at hSw); go_simp; try (with_reducible rfl))
  (try simp only [Act.put, List.setIfInBounds_toArray, List.set])
  refine wpAnyH_take (i := 6) (v := ?v6) rfl (by kernel_rfl) (by kernel_rfl) (by kernel_rfl) (fun _ _ _ h => h) (Or.inl ⟨by rfl, ?hy6⟩) (by assumption) ?rest6
  case hy6 => (intro w hSw; (try dsimp only at hSw); go_simp; try (with_reducible rfl))
  (try simp only [Act.put, List.setIfInBounds_toArray, List.set])
  refine wpAnyH_take (i := 7) (v := ?v7) rfl (by kernel_rfl) (by kernel_rfl) (by kernel_rfl) (fun _ _ _ h => h) (Or.inl ⟨by rfl, ?hy7⟩) (by assumption) ?rest7
  case hy7 => (intro w hSw; (try dsimp only at hSw); go_simp; try (with_reducible rfl))
  (try simp only [Act.put, List.setIfInBounds_toArray, List.set])
  refine wpAnyH_take (i := 8) (v := ?v8) rfl (by kernel_rfl) (by kernel_rfl) (by kernel_rfl) (fun _ _ _ h => h) (Or.inl ⟨by rfl, ?hy8⟩) (by assumption) ?rest8
  case hy8 => (intro w hSw; (try dsimp only at hSw); go_simp; try (with_reducible rfl))
  (try simp only [Act.put, List.setIfInBounds_toArray, List.set])
  refine wpAnyH_ready (rs := [9]) (by kernel_rfl) (by simp) ?_
  refine AllReadyH.cons rfl (fun K hK => ?_) AllReadyH.nil
  go_simp
  (go_at_call 141; refine (impl_number.calls k d word (i : Int) _ HI.out).mono ?_; rintro e w2 ⟨rfl, hd2⟩; have hb2 := of_drawn hd2; have hk2 := HK1.out _ (below_step (below_drew (Below.refl _ _)) hb2); obtain ⟨k0, k1, k2, k3, k4⟩ := hk2; have r0 : w2.cell? ⟨w.heap.size, 0, none⟩ = some (.int .i64 0) := (blk_cell k4 0).trans rfl; have r1 : w2.cell? ⟨w.heap.size, 1, none⟩ = some (.int .i64 0) := (blk_cell k4 1).trans rfl; have rf0 := blk_frozen k4 0; have rf1 := blk_frozen k4 1)
  refine hK.out _ _ ?_ (fun hHeld => ?_)
  · (try dsimp only)
    (exact ⟨k0, k1, k2, k3⟩)
  clear hK K
  (try simp only [Act.put, List.setIfInBounds_toArray, List.set])
  refine wpAnyH_take (i := 10) (v := ?v9) rfl (by kernel_rfl) (by kernel_rfl) (by kernel_rfl) (fun _ _ _ h => h) (Or.inl ⟨by rfl, ?hy9⟩) (by assumption) ?rest9
  case hy9 => (intro w hSw; (try dsimp only at hSw); go_simp; try (with_reducible rfl))
  (try simp only [Act.put, List.setIfInBounds_toArray, List.set])
  refine wpAnyH_ready (rs := [11]) (by kernel_rfl) (by simp) ?_
  refine AllReadyH.cons rfl (fun K hK => ?_) AllReadyH.nil
  go_simp
  refine hK.out _ _ ?_ (fun hHeld => ?_)
  · (try dsimp only)
    (exact ⟨k0, k1, k2, k3⟩)
  clear hK K
  (try simp only [Act.put, List.setIfInBounds_toArray, List.set])
  refine wpAnyH_ready (rs := [12]) (by kernel_rfl) (by simp) ?_
  refine AllReadyH.cons rfl (fun K hK => ?_) AllReadyH.nil
  go_simp
  refine hK.out _ _ ?_ (fun hHeld => ?_)
  · (try dsimp only)
    (exact ⟨cell_far hAB (cell_far hAB k0), cell_far hAB (cell_far hAB k1), cell_far hAg (cell_far hAg k2), cell_far hAg (cell_far hAg k3)⟩)
  clear hK K
  (try simp only [Act.put, List.setIfInBounds_toArray, List.set])
  refine wpAnyH_done (by kernel_rfl) ?_ _
  refine NoPanic.normal ?_
  go_wp2
  refine bodyPost_ret (results_cell_row rfl _ _ w.heap.size 27 #[.int .i64 (rd_T27 vs (i : Int)).f0, .int .i64 (rd_T27 vs (i : Int)).f1] (0, 0) _ rfl (blk_put (cs := #[.int .i64 (rd_T27 vs (i : Int)).f0, .int .i64 0]) (blk_put (cs := #[.int .i64 0, .int .i64 0]) k4 0 _ rfl) 1 _ rfl) Try.underlying27 rfl (by kernel_rfl)) rfl ?_
  exact ⟨rfl, below_set (below_set (below_step (below_drew HB1.out) hb2) (Nat.le_refl _)) (Nat.le_refl _)⟩
set_option maxHeartbeats 16000000 in
set_option maxRecDepth 100000 in
theorem addTimes (k : Nat) (base B g cap : Nat) (d n : Int) (vs : List S27) (bad : Bool) (word : ByteArray) (i : Nat) (a0 a1 b0 b1 m0 m1 s0 s1 : Int) (m2 s2 : Bool) (hi : impl_number.f k d word = some (i : Int)) (hlt : i < vs.length)
    (hm : impl_Fraction_times.f k a0 a1 b0 b1 = some (m0, m1, m2)) (hs : impl_Fraction_plus.f k (rd_T27 vs (i : Int)).f0 (rd_T27 vs (i : Int)).f1 (sel m2 m0 0) (sel m2 m1 1) = some (s0, s1, s2)) (w : World) (h : Tab w base B g cap d n vs bad) :
    Calls Try.prog 138 #[.pointer (some ⟨B, 0, none⟩), .string word, .agg #[.int .i64 a0, .int .i64 a1], .agg #[.int .i64 b0, .int .i64 b1]] w fun e w' => e = .returned (.tuple #[]) ∧ Tab w' base B g cap d n (addV vs i s0 s1 s2) ((bad || !m2) || !s2) ∧ Touch2 w w' B g ∧ ∀ b, b ≤ B → b ≤ g → Below b w w' := by
  have HT := zA h
  have HI := zA hi
  have HM := zA hm
  have HS := zA hs
  have hB : B < w.heap.size := h.ltB
  have hg : g < w.heap.size := h.lt
  clear h hi hm hs
  have B0 := zA (below_alloc (below_alloc (Below.refl w.heap.size w) (.cells #[.int .i64 a0, .int .i64 a1] 27)) (.cells #[.int .i64 b0, .int .i64 b1] 27))
  have X0 := blk_alloc (blk_new w (.cells #[.int .i64 a0, .int .i64 a1] 27)) (.cells #[.int .i64 b0, .int .i64 b1] 27)
  have Y0 := blk_new2 w (.cells #[.int .i64 a0, .int .i64 a1] 27) (.cells #[.int .i64 b0, .int .i64 b1] 27)
  have x0 : ((w.alloc (.cells #[.int .i64 a0, .int .i64 a1] 27)).alloc (.cells #[.int .i64 b0, .int .i64 b1] 27)).cell? ⟨w.heap.size, 0, none⟩ = some (.int .i64 a0) := (blk_cell X0 0).trans rfl
  have x1 : ((w.alloc (.cells #[.int .i64 a0, .int .i64 a1] 27)).alloc (.cells #[.int .i64 b0, .int .i64 b1] 27)).cell? ⟨w.heap.size, 1, none⟩ = some (.int .i64 a1) := (blk_cell X0 1).trans rfl
  have y0 : ((w.alloc (.cells #[.int .i64 a0, .int .i64 a1] 27)).alloc (.cells #[.int .i64 b0, .int .i64 b1] 27)).cell? ⟨w.heap.size + 1, 0, none⟩ = some (.int .i64 b0) := (blk_cell Y0 0).trans rfl
  have y1 : ((w.alloc (.cells #[.int .i64 a0, .int .i64 a1] 27)).alloc (.cells #[.int .i64 b0, .int .i64 b1] 27)).cell? ⟨w.heap.size + 1, 1, none⟩ = some (.int .i64 b1) := (blk_cell Y0 1).trans rfl
  clear X0 Y0
  go_enter Try.func138, Try.ntmps138
  go_wp2_with (first
    | (go_at_call 164; refine (impl_Fraction_times.calls k a0 a1 b0 b1 m0 m1 m2 _ HM.out).mono ?_; rintro e w1 ⟨rfl, hb⟩; have B1 := zA (below_step B0.out hb); have HT1 := zA (HT.out.below B1.out); clear hb)
    | (go_at_call 142; refine (check m0 m1 m2 base B g cap d n vs bad _ HT1.out).mono ?_; rintro e w2 ⟨rfl, ht, hto, hbb⟩; have HT2 := zA ht; have TO2 := zA hto; have BB2 := zA hbb; clear ht hto hbb)
    | (go_at_call 95; refine (add k base B g cap d n vs _ word i _ _ s0 s1 s2 HI.out hlt HS.out _ HT2.out).mono ?_; rintro e w3 ⟨rfl, ht, hto, hbb⟩; have HT3 := zA ht; have TO3 := zA hto; have BB3 := zA hbb; clear ht hto hbb))
  refine bodyPost_end (results_none rfl _ _ _) rfl ?_
  refine ⟨rfl, HT3.out, Touch2.trans (Touch2.of_below B g B1.out) (Touch2.trans (Touch2.of_touch g TO2.out) TO3.out), fun b hb1 hb2 => ?_⟩
  exact ((B1.out.mono (by omega)).trans (BB2.out b hb1)).trans (BB3.out b hb1 hb2)
/-- The unit's values. -/
def unitV (m : Nat) : List S27 := (List.replicate m ⟨0, 1⟩).set 0 ⟨1, 1⟩
theorem unitV_length (m : Nat) : (unitV m).length = m := by simp [unitV]
set_option maxHeartbeats 16000000 in
set_option maxRecDepth 100000 in
theorem unit (k : Nat) (d n : Int) (ws : List ByteArray) (hk : impl_allWords.f k d n = some ws) (h1 : 1 ≤ ws.length) (h2 : ws.length ≤ 1000) (base B g cap : Nat) (vs : List S27) (bad : Bool) (w : World) (h : Tab w base B g cap d n vs bad) :
    Calls Try.prog 86 #[.pointer (some ⟨B, 0, none⟩)] w fun e w' => ∃ B' g' cap', e = .returned (.pointer (some ⟨B', 0, none⟩)) ∧ Tab w' w.heap.size B' g' cap' d n (unitV ws.length) false ∧ Below w.heap.size w w' := by
  have HT := zA h
  have HK := zA hk
  clear h hk
  go_enter Try.func86, Try.ntmps86
  go_wp2_with (go_at_call 133; refine (like k d n ws HK.out h1 h2 base B g cap vs bad _ HT.out).mono ?_; rintro e w1 ⟨B', g', cap', rfl, ht1, hb1⟩; have HT1 := zA ht1; have B1 := zA hb1; clear ht1 hb1)
  have x2 := HT1.out.cells.2.2.1
  rw [List.length_replicate] at x2
  have hne := HT1.out.ne
  have p3 : (0 < ws.length) = True := eq_true (by omega)
  have p4 : ((0 : Int) < (ws.length : Int)) = True := eq_true (by omega)
  have hBg : w.heap.size ≤ g' := HT1.out.hg
  refine wp_region_noPanic ?_
  refine wp_region_held_drew (S := (fun w' => w'.cell? ⟨B', 2, none⟩ = some (.slice (some ⟨g', 0, none⟩) ws.length cap'))) (by kernel_rfl) ?_ (fun hHeld => ?_)
  · (try dsimp only)
    (exact pw_cell_below (below_drew (Below.refl _ _)) x2)
  refine wpAnyH_take (i := 0) (v := ?v0) rfl (by kernel_rfl) (by kernel_rfl) (by kernel_rfl) (fun _ _ _ h => h) (Or.inl ⟨by rfl, ?hy0⟩) (by assumption) ?rest0
  case hy0 => (intro w hSw; (try dsimp only at hSw); go_simp; try (with_reducible rfl))
  (try simp only [Act.put, List.setIfInBounds_toArray, List.set])
  refine wpAnyH_take (i := 1) (v := ?v1) rfl (by kernel_rfl) (by kernel_rfl) (by kernel_rfl) (fun _ _ _ h => h) (Or.inl ⟨by rfl, ?hy1⟩) (by assumption) ?rest1
  case hy1 => (intro w hSw; (try dsimp only at hSw); go_simp; try (with_reducible rfl))
  (try simp only [Act.put, List.setIfInBounds_toArray, List.set])
  refine wpAnyH_take (i := 2) (v := ?v2) rfl (by kernel_rfl) (by kernel_rfl) (by kernel_rfl) (fun _ _ _ h => h) (Or.inl ⟨by rfl, ?hy2⟩) (by assumption) ?rest2
  case hy2 => (intro w hSw; (try dsimp only at hSw); go_simp; try (with_reducible rfl))
  (try simp only [Act.put, List.setIfInBounds_toArray, List.set])
  refine wpAnyH_take (i := 3) (v := ?v3) rfl (by kernel_rfl) (by kernel_rfl) (by kernel_rfl) (fun _ _ _ h => h) (Or.inl ⟨by rfl, ?hy3⟩) (by assumption) ?rest3
  case hy3 => (intro w hSw; (try dsimp only at hSw); go_simp; try (with_reducible rfl))
  (try simp only [Act.put, List.setIfInBounds_toArray, List.set])
  refine wpAnyH_ready (rs := [4]) (by kernel_rfl) (by simp) ?_
  refine AllReadyH.cons rfl (fun K hK => ?_) AllReadyH.nil
  go_simp
  (go_at_call 134; refine (impl_whole.calls 1 1 1 _ rfl).mono ?_; rintro e w2 ⟨rfl, hb2⟩; have HT2 := zA ((HT1.out.below (below_drew (Below.refl _ _))).below hb2); have hx2 := HT2.out.cells.2.2.1; rw [List.length_replicate] at hx2; obtain ⟨v0, v1, vf⟩ := HT2.out.val 0 (by omega) (by rw [List.length_replicate]; omega); simp only [Int.toNat_zero, Nat.zero_mul, Nat.zero_add] at v0 v1; have vf0 := vf 0; have vf1 := vf 1)
  refine hK.out _ _ ?_ (fun hHeld => ?_)
  · (try dsimp only)
    (exact hx2)
  clear hK K
  (try simp only [Act.put, List.setIfInBounds_toArray, List.set])
  refine wpAnyH_take (i := 5) (v := ?v4) rfl (by kernel_rfl) (by kernel_rfl) (by kernel_rfl) (fun _ _ _ h => h) (Or.inl ⟨by rfl, ?hy4⟩) (by assumption) ?rest4
  case hy4 => (intro w hSw; (try dsimp only at hSw); go_simp; try (with_reducible rfl))
  (try simp only [Act.put, List.setIfInBounds_toArray, List.set])
  refine wpAnyH_ready (rs := [6]) (by kernel_rfl) (by simp) ?_
  refine AllReadyH.cons rfl (fun K hK => ?_) AllReadyH.nil
  go_simp
  refine hK.out _ _ ?_ (fun hHeld => ?_)
  · (try dsimp only)
    (exact cell_far hne (cell_far hne hx2))
  clear hK K
  (try simp only [Act.put, List.setIfInBounds_toArray, List.set])
  refine wpAnyH_done (by kernel_rfl) ?_ _
  refine NoPanic.normal ?_
  go_wp2
  have hp := HT2.out.put 0 (by omega) (by rw [List.length_replicate]; omega) 1 1
  simp only [Int.toNat_zero, Nat.zero_mul, Nat.zero_add] at hp
  refine bodyPost_ret (results_tmp rfl _ _ _) rfl ?_
  exact ⟨B', g', cap', rfl, hp, below_set (below_set (below_step (below_drew B1.out) hb2) hBg) hBg⟩
end Go.Proofs.Ytcklefgkbddlhaa.Tab
