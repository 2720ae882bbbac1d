/- Sums and multiples of tables: what calls of sum and scaled come to. (The drawn regions are printed by a program of this session.) -/
import Derived.Test.YtcklefgkbddlhaaPx15
import Derived.Test.YtcklefgkbddlhaaTabX
namespace Go.Proofs.Ytcklefgkbddlhaa.Tab
open Go.RowKit Go.Proofs.Ytcklefgkbddlhaa.P Go.Proofs.YtcklefgkbddlhaaW.PrintWords Go.Proofs.YtcklefgkbddlhaaW.PrintLast Go.Proofs.YtcklefgkbddlhaaW.PrintMore
set_option linter.unusedVariables false
set_option linter.unusedSimpArgs false

/-- The values of a sum, from a number on. -/
def sumL (k : Nat) (ts us : List S27) : Nat → Nat → List S27 → Bool → Option (List S27 × Bool)
 | 0, _, vs, bad => some (vs, bad)
 | e + 1, i, vs, bad => (impl_Fraction_plus.f k (rd_T27 ts (i : Int)).f0 (rd_T27 ts (i : Int)).f1 (rd_T27 us (i : Int)).f0 (rd_T27 us (i : Int)).f1).bind fun s => sumL k ts us e (i + 1) (addV vs i s.1 s.2.1 s.2.2) (bad || !s.2.2)
/-- The values of a multiple, from a number on. -/
def scaledL (k : Nat) (ts : List S27) (a0 a1 : Int) : Nat → Nat → List S27 → Bool → Option (List S27 × Bool)
 | 0, _, vs, bad => some (vs, bad)
 | e + 1, i, vs, bad => (impl_Fraction_times.f k (rd_T27 ts (i : Int)).f0 (rd_T27 ts (i : Int)).f1 a0 a1).bind fun s => scaledL k ts a0 a1 e (i + 1) (addV vs i s.1 s.2.1 s.2.2) (bad || !s.2.2)
theorem addV_len (vs : List S27) (i : Nat) (s0 s1 : Int) (fits : Bool) : (addV vs i s0 s1 fits).length = vs.length := by rw [addV, List.length_set]
set_option maxHeartbeats 16000000 in
set_option maxRecDepth 100000 in
theorem scaled (k : Nat) (d n : Int) (ws : List ByteArray) (hk : impl_allWords.f k d n = some ws) (h1 : 1 ≤ ws.length) (h2 : ws.length ≤ 1000) (base B g cap : Nat) (vs : List S27) (bad : Bool) (hl : vs.length = ws.length) (a0 a1 : Int) (r : List S27 × Bool) (hs : scaledL k vs a0 a1 ws.length 0 (List.replicate ws.length ⟨0, 1⟩) bad = some r) (w : World) (h : Tab w base B g cap d n vs bad) :
 Calls Try.prog 177 #[.pointer (some ⟨B, 0, none⟩), .agg #[.int .i64 a0, .int .i64 a1]] w fun e w' => ∃ Bo go capo, e = .returned (.pointer (some ⟨Bo, 0, none⟩)) ∧ Tab w' w.heap.size Bo go capo d n r.1 r.2 ∧ Below w.heap.size w w' := by
 have HT := zA h
 have HK := zA hk
 clear h hk
 have H := zA (show scaledL k vs a0 a1 ws.length 0 (List.replicate ws.length ⟨0, 1⟩) bad = some r from hs)
 clear hs
 have B0 := zA (below_alloc (Below.refl w.heap.size w) (.cells #[.int .i64 a0, .int .i64 a1] 27))
 have X0 := zA (blk_new w (.cells #[.int .i64 a0, .int .i64 a1] 27))
 go_enter Try.func177, Try.ntmps177
 go_wp2_with (go_at_call 133; refine (like k d n ws HK.out h1 h2 base B g cap vs bad _ (HT.out.below B0.out)).mono ?_; rintro e w1 ⟨Bo, go, capo, rfl, ht1, hb1⟩; have B1 := zA (below_step B0.out hb1); have hsz := below_size B0.out; have X1 := zA ((hb1.block w.heap.size (blk_lt X0.out)).trans X0.out); have hXl : w.heap.size < (w.alloc (.cells #[.int .i64 a0, .int .i64 a1] 27)).heap.size := blk_lt X0.out; have hXB : w.heap.size < Bo := Nat.lt_of_lt_of_le hXl ht1.hB; have hXg : w.heap.size < go := Nat.lt_of_lt_of_le hXl ht1.hg; clear X0 B0; have hBo : w.heap.size ≤ Bo := Nat.le_trans hsz ht1.hB; have hgo : w.heap.size ≤ go := Nat.le_trans hsz ht1.hg; have hne : Bo ≠ go := ht1.ne; have hB := HT.out.ltB; have hg := HT.out.lt; have x3 := (HT.out.below B1.out).cells.2.2.2; have x2 := (HT.out.below B1.out).cells.2.2.1; rw [hl] at x2; have z3 := ht1.cells.2.2.2; have zf := ht1.frozen 3; have HTo := zA ((ht1.mark bad).lower (base' := w.heap.size) hsz); have B2 := zA (show Below w.heap.size w (w1.setCell ⟨Bo, 3, none⟩ (.bool bad)) from below_set B1.out hBo); have x2' : (w1.setCell ⟨Bo, 3, none⟩ (.bool bad)).cell? ⟨B, 2, none⟩ = some (.slice (some ⟨g, 0, none⟩) ws.length cap) := cell_far (by omega) x2; have X2 := zA ((Below.heap_setCell w1 ⟨Bo, 3, none⟩ (.bool bad) w.heap.size (Nat.ne_of_lt hXB)).trans X1.out); clear X1; clear hb1 ht1 hsz)
 go_loopw [22] (fun s22 wr => ∃ (i : Nat) (os : List S27) (bo : Bool), i ≤ ws.length ∧ s22 = .int .i64 i ∧ Aside0 (scaledL k vs a0 a1 (ws.length - i) i os bo = some r) ∧ Aside0 (os.length = ws.length) ∧ Aside0 (Tab wr w.heap.size Bo go capo d n os bo) ∧ Aside0 (wr.heap[w.heap.size]? = some (.cells #[.int .i64 a0, .int .i64 a1] 27 (0, 0))) ∧ Aside0 (Below w.heap.size w wr)) (fun s22 _ => ws.length - (intOf s22).toNat)
 case atStart => exact ⟨0, _, _, Nat.zero_le _, rfl, H, ⟨by simp⟩, HTo, X2, B2⟩
 case round =>
  clear H HTo B2 B1 x2 x2' x3 z3 zf X2
  obtain ⟨i, os, bo, hi, rfl, H, HL, HTo, XB, BB⟩ := hrel
  have hol := HL.out
  by_cases hlt : i < ws.length
  ·have H := H.out
   obtain ⟨e', he'⟩ : ∃ e', ws.length - i = e' + 1 := ⟨ws.length - i - 1, by omega⟩
   rw [he'] at H
   simp only [scaledL] at H
   obtain ⟨⟨s0, s1, s2⟩, AS, H⟩ := Option.bind_eq_some_iff.mp H
   have AS := zA AS
   rw [show e' = ws.length - (i + 1) from by omega] at H
   have HN := zA H
   clear H
   obtain ⟨v0, v1, vf⟩ := (HT.out.below BB.out).val (i : Int) (by omega) (by omega)
   rw [Int.toNat_natCast] at v0 v1
   have p1 : ((i : Int) < (ws.length : Int)) = True := eq_true (by omega)
   have p2 : (i < ws.length) = True := eq_true hlt
   have p3 : (0 ≤ (i : Int)) = True := eq_true (by omega)
   have b1 : decide ((i : Int) < (ws.length : Int)) = true := decide_eq_true (by omega)
   have hb6 := below_alloc (Below.refl wr.heap.size wr) (.cells #[.int .i64 (rd_T27 vs (i : Int)).f0, .int .i64 (rd_T27 vs (i : Int)).f1] 27)
   have HTo6 := zA (HTo.out.below hb6)
   have BB6 := zA (below_step BB.out hb6)
   have AB6 := zA (blk_new wr (.cells #[.int .i64 (rd_T27 vs (i : Int)).f0, .int .i64 (rd_T27 vs (i : Int)).f1] 27))
   have XB6 := zA ((hb6.block w.heap.size (blk_lt XB.out)).trans XB.out)
   have hBA : Bo < wr.heap.size := HTo.out.ltB
   have hgA : go < wr.heap.size := HTo.out.lt
   have hwA : w.heap.size ≤ wr.heap.size := below_size BB.out
   clear hb6
   go_wp2
   generalize wr.alloc (.cells #[.int .i64 (rd_T27 vs (i : Int)).f0, .int .i64 (rd_T27 vs (i : Int)).f1] 27) = W6 at HTo6 BB6 AB6 XB6 ⊢
   generalize wr.heap.size = A at AB6 hBA hgA hwA ⊢
   clear v0 v1 vf
   have x2 := HTo6.out.cells.2.2.1
   rw [hol] at x2
   have r0 : W6.cell? ⟨A, 0, none⟩ = some (.int .i64 (rd_T27 vs (i : Int)).f0) := (blk_cell AB6.out 0).trans rfl
   have r1 : W6.cell? ⟨A, 1, none⟩ = some (.int .i64 (rd_T27 vs (i : Int)).f1) := (blk_cell AB6.out 1).trans rfl
   have y0 : W6.cell? ⟨w.heap.size, 0, none⟩ = some (.int .i64 a0) := (blk_cell XB6.out 0).trans rfl
   have y1 : W6.cell? ⟨w.heap.size, 1, none⟩ = some (.int .i64 a1) := (blk_cell XB6.out 1).trans rfl
   have HK1 : Aside0 (∀ W7 : World, Below W6.heap.size W6 W7 → W7.cell? ⟨Bo, 2, none⟩ = some (.slice (some ⟨go, 0, none⟩) ws.length capo) ∧ W7.cell? ⟨A, 0, none⟩ = some (.int .i64 (rd_T27 vs (i : Int)).f0) ∧ W7.cell? ⟨A, 1, none⟩ = some (.int .i64 (rd_T27 vs (i : Int)).f1) ∧ W7.cell? ⟨w.heap.size, 0, none⟩ = some (.int .i64 a0) ∧ W7.cell? ⟨w.heap.size, 1, none⟩ = some (.int .i64 a1)) := ⟨fun W7 hb => ⟨pw_cell_below hb x2, pw_cell_below hb r0, pw_cell_below hb r1, pw_cell_below hb y0, pw_cell_below hb y1⟩⟩
   have hAl := blk_lt AB6.out
   have h6 : w.heap.size ≤ W6.heap.size := below_size BB6.out
   clear x2 r0 r1 y0 y1
   refine wp_region_noPanic ?_
   refine wp_region_held_drew (S := (fun w' => w'.cell? ⟨Bo, 2, none⟩ = some (.slice (some ⟨go, 0, none⟩) ws.length capo) ∧ w'.cell? ⟨A, 0, none⟩ = some (.int .i64 (rd_T27 vs (i : Int)).f0) ∧ w'.cell? ⟨A, 1, none⟩ = some (.int .i64 (rd_T27 vs (i : Int)).f1) ∧ w'.cell? ⟨w.heap.size, 0, none⟩ = some (.int .i64 a0) ∧ w'.cell? ⟨w.heap.size, 1, none⟩ = some (.int .i64 a1))) (by kernel_rfl) ?_ (fun hHeld => ?_)
   ·(try dsimp only)
    (exact HK1.out _ (below_drew (Below.refl _ _)))
   refine wpAnyH_take (i := 0) (v := ?v0) rfl (by kernel_rfl) (by kernel_rfl) (by kernel_rfl) (fun _ _ _ h => h) (Or.inl ⟨by rfl, ?hy0⟩) (by assumption) ?rest0
   case hy0 => (intro w hSw; (try dsimp only at hSw); go_simp; try (with_reducible rfl))
   (try simp only [Act.put, List.setIfInBounds_toArray, List.set])
   refine wpAnyH_take (i := 1) (v := ?v1) rfl (by kernel_rfl) (by kernel_rfl) (by kernel_rfl) (fun _ _ _ h => h) (Or.inl ⟨by rfl, ?hy1⟩) (by assumption) ?rest1
   case hy1 => (intro w hSw; (try dsimp only at hSw); go_simp; try (with_reducible rfl))
   (try simp only [Act.put, List.setIfInBounds_toArray, List.set])
   refine wpAnyH_take (i := 2) (v := ?v2) rfl (by kernel_rfl) (by kernel_rfl) (by kernel_rfl) (fun _ _ _ h => h) (Or.inl ⟨by rfl, ?hy2⟩) (by assumption) ?rest2
   case hy2 => (intro w hSw; (try dsimp only at hSw); go_simp; try (with_reducible rfl))
   (try simp only [Act.put, List.setIfInBounds_toArray, List.set])
   refine wpAnyH_take (i := 3) (v := ?v3) rfl (by kernel_rfl) (by kernel_rfl) (by kernel_rfl) (fun _ _ _ h => h) (Or.inl ⟨by rfl, ?hy3⟩) (by assumption) ?rest3
   case hy3 => (intro w hSw; (try dsimp only at hSw); go_simp; try (with_reducible rfl))
   (try simp only [Act.put, List.setIfInBounds_toArray, List.set])
   refine wpAnyH_take (i := 4) (v := ?v4) rfl (by kernel_rfl) (by kernel_rfl) (by kernel_rfl) (fun _ _ _ h => h) (Or.inl ⟨by rfl, ?hy4⟩) (by assumption) ?rest4
   case hy4 => (intro w hSw; (try dsimp only at hSw); go_simp; try (with_reducible rfl))
   (try simp only [Act.put, List.setIfInBounds_toArray, List.set])
   refine wpAnyH_take (i := 5) (v := ?v5) rfl (by kernel_rfl) (by kernel_rfl) (by kernel_rfl) (fun _ _ _ h => h) (Or.inl ⟨by rfl, ?hy5⟩) (by assumption) ?rest5
   case hy5 => (intro w hSw; (try dsimp only at hSw); go_simp; try (with_reducible rfl))
   (try simp only [Act.put, List.setIfInBounds_toArray, List.set])
   refine wpAnyH_take (i := 6) (v := ?v6) rfl (by kernel_rfl) (by kernel_rfl) (by kernel_rfl) (fun _ _ _ h => h) (Or.inl ⟨by rfl, ?hy6⟩) (by assumption) ?rest6
   case hy6 => (intro w hSw; (try dsimp only at hSw); go_simp; try (with_reducible rfl))
   (try simp only [Act.put, List.setIfInBounds_toArray, List.set])
   refine wpAnyH_take (i := 7) (v := ?v7) rfl (by kernel_rfl) (by kernel_rfl) (by kernel_rfl) (fun _ _ _ h => h) (Or.inl ⟨by rfl, ?hy7⟩) (by assumption) ?rest7
   case hy7 => (intro w hSw; (try dsimp only at hSw); go_simp; try (with_reducible rfl))
   (try simp only [Act.put, List.setIfInBounds_toArray, List.set])
   refine wpAnyH_ready (rs := [8]) (by kernel_rfl) (by simp) ?_
   refine AllReadyH.cons rfl (fun K hK => ?_) AllReadyH.nil
   go_simp
   (go_at_call 164; refine (impl_Fraction_times.calls k _ _ _ _ s0 s1 s2 _ AS.out).mono ?_; rintro e w7 ⟨rfl, hb7⟩)
   refine hK.out _ _ ?_ (fun hHeld => ?_)
   ·(try dsimp only)
    (exact HK1.out _ (below_step (below_drew (Below.refl _ _)) hb7))
   clear hK K
   (try simp only [Act.put, List.setIfInBounds_toArray, List.set])
   refine wpAnyH_take (i := 9) (v := ?v8) rfl (by kernel_rfl) (by kernel_rfl) (by kernel_rfl) (fun _ _ _ h => h) (Or.inl ⟨by rfl, ?hy8⟩) (by assumption) ?rest8
   case hy8 => (intro w hSw; (try dsimp only at hSw); go_simp; try (with_reducible rfl))
   (try simp only [Act.put, List.setIfInBounds_toArray, List.set])
   refine wpAnyH_take (i := 10) (v := ?v9) rfl (by kernel_rfl) (by kernel_rfl) (by kernel_rfl) (fun _ _ _ h => h) (Or.inl ⟨by rfl, ?hy9⟩) (by assumption) ?rest9
   case hy9 => (intro w hSw; (try dsimp only at hSw); go_simp; try (with_reducible rfl))
   (try simp only [Act.put, List.setIfInBounds_toArray, List.set])
   refine wpAnyH_ready (rs := [11]) (by kernel_rfl) (by simp) ?_
   refine AllReadyH.cons rfl (fun K hK => ?_) AllReadyH.nil
   go_simp
   (go_at_call 142; refine (check s0 s1 s2 w.heap.size Bo go capo d n os bo _ ((HTo6.out.below (below_drew (Below.refl _ _))).below hb7)).mono ?_; rintro e w8 ⟨rfl, ht8, hto8, hbb8⟩; obtain ⟨n0, n1, n2, n3, n4⟩ := HK1.out _ (below_step (below_drew (Below.refl _ _)) hb7); have hs7 := hb7.size; have m0 := ht8.cells.2.2.1; rw [hol] at m0; have m1 := (cell_of_block (j := 0) (hto8.2 A (Nat.lt_of_lt_of_le (show A < W6.heap.size by omega) hs7) (by omega))).trans n1; have m2 := (cell_of_block (j := 1) (hto8.2 A (Nat.lt_of_lt_of_le (show A < W6.heap.size by omega) hs7) (by omega))).trans n2; have m3 := (cell_of_block (j := 0) (hto8.2 w.heap.size (Nat.lt_of_lt_of_le (show w.heap.size < W6.heap.size by omega) hs7) (by omega))).trans n3; have m4 := (cell_of_block (j := 1) (hto8.2 w.heap.size (Nat.lt_of_lt_of_le (show w.heap.size < W6.heap.size by omega) hs7) (by omega))).trans n4; obtain ⟨gv0, gv1, gvf⟩ := ht8.val (i : Int) (by omega) (by omega); rw [Int.toNat_natCast] at gv0 gv1; have gf0 := gvf (i * 2); have gf1 := gvf (i * 2 + 1); clear n0 n1 n2 n3 n4 gvf)
   refine hK.out _ _ ?_ (fun hHeld => ?_)
   ·(try dsimp only)
    (exact ⟨m0, m1, m2, m3, m4⟩)
   clear hK K
   (try simp only [Act.put, List.setIfInBounds_toArray, List.set])
   refine wpAnyH_take (i := 12) (v := ?v10) rfl (by kernel_rfl) (by kernel_rfl) (by kernel_rfl) (fun _ _ _ h => h) (Or.inl ⟨by rfl, ?hy10⟩) (by assumption) ?rest10
   case hy10 => (intro w hSw; (try dsimp only at hSw); go_simp; try (with_reducible rfl))
   (try simp only [Act.put, List.setIfInBounds_toArray, List.set])
   refine wpAnyH_ready (rs := [13]) (by kernel_rfl) (by simp) ?_
   refine AllReadyH.cons rfl (fun K hK => ?_) AllReadyH.nil
   go_simp
   refine hK.out _ _ ?_ (fun hHeld => ?_)
   ·(try dsimp only)
    (exact ⟨cell_far (by omega) (cell_far (by omega) m0), cell_far (by omega) (cell_far (by omega) m1), cell_far (by omega) (cell_far (by omega) m2), cell_far (by omega) (cell_far (by omega) m3), cell_far (by omega) (cell_far (by omega) m4)⟩)
   clear hK K
   (try simp only [Act.put, List.setIfInBounds_toArray, List.set])
   refine wpAnyH_done (by kernel_rfl) ?_ _
   refine NoPanic.normal ?_
   go_wp2
   have hp := ht8.put (i : Int) (by omega) (by omega) (sel s2 s0 0) (sel s2 s1 1)
   rw [Int.toNat_natCast] at hp
   have hb9 : Below w.heap.size w w8 := (below_step (below_drew BB6.out) hb7).trans (hbb8 w.heap.size (by omega))
   have xb : ((w8.setCell ⟨go, i * 2, none⟩ (.int .i64 (sel s2 s0 0))).setCell ⟨go, i * 2 + 1, none⟩ (.int .i64 (sel s2 s1 1))).heap[w.heap.size]? = some (.cells #[.int .i64 a0, .int .i64 a1] 27 (0, 0)) := (Below.heap_setCell _ ⟨go, i * 2 + 1, none⟩ _ _ (Nat.ne_of_lt hXg)).trans ((Below.heap_setCell w8 ⟨go, i * 2, none⟩ _ _ (Nat.ne_of_lt hXg)).trans ((hto8.2 w.heap.size (Nat.lt_of_lt_of_le (show w.heap.size < W6.heap.size by omega) hs7) (Nat.ne_of_lt hXB)).trans ((hb7.block w.heap.size (by show w.heap.size < W6.heap.size; omega)).trans XB6.out)))
   refine ⟨⟨i + 1, _, _, by omega, by go_num, HN, ⟨(addV_len _ _ _ _ _).trans hol⟩, ⟨hp⟩, ⟨xb⟩, ⟨below_set (below_set hb9 hgo) hgo⟩⟩, by simp [intOf]; omega⟩
  ·obtain rfl : i = ws.length := by omega
   have H := H.out
   rw [Nat.sub_self] at H
   simp only [scaledL] at H
   cases H
   have b1 : decide ((ws.length : Int) < (ws.length : Int)) = false := decide_eq_false (by omega)
   have b2 : ((ws.length : Int) < (ws.length : Int)) = False := eq_false (by omega)
   have b3 : (ws.length < ws.length) = False := eq_false (by omega)
   go_wp2
   refine bodyPost_ret (results_tmp rfl _ _ _) rfl ?_
   exact ⟨Bo, rfl, ⟨go, capo, HTo.out⟩, BB.out⟩
set_option maxHeartbeats 16000000 in
set_option maxRecDepth 100000 in
theorem sum_true (k : Nat) (d n : Int) (ws : List ByteArray) (hk : impl_allWords.f k d n = some ws) (h1 : 1 ≤ ws.length) (h2 : ws.length ≤ 1000) (base B g cap : Nat) (vs : List S27) (hl : vs.length = ws.length) (base' B' g' cap' : Nat) (us : List S27) (bad' : Bool) (hl' : us.length = ws.length) (r : List S27 × Bool) (hs : sumL k vs us ws.length 0 (List.replicate ws.length ⟨0, 1⟩) (true || bad') = some r) (w : World) (h : Tab w base B g cap d n vs true) (h' : Tab w base' B' g' cap' d n us bad') :
 Calls Try.prog 176 #[.pointer (some ⟨B, 0, none⟩), .pointer (some ⟨B', 0, none⟩)] w fun e w' => ∃ Bo go capo, e = .returned (.pointer (some ⟨Bo, 0, none⟩)) ∧ Tab w' w.heap.size Bo go capo d n r.1 r.2 ∧ Below w.heap.size w w' := by
 have HT := zA h
 have HK := zA hk
 clear h hk
 have HT' := zA h'
 clear h'
 have H := zA (show sumL k vs us ws.length 0 (List.replicate ws.length ⟨0, 1⟩) true = some r from hs)
 clear hs
 go_enter Try.func176, Try.ntmps176
 go_wp2_with (go_at_call 133; refine (like k d n ws HK.out h1 h2 base B g cap vs true _ HT.out).mono ?_; rintro e w1 ⟨Bo, go, capo, rfl, ht1, hb1⟩; have B1 := zA (hb1); have hsz : w.heap.size ≤ w.heap.size := Nat.le_refl _; have hBo : w.heap.size ≤ Bo := Nat.le_trans hsz ht1.hB; have hgo : w.heap.size ≤ go := Nat.le_trans hsz ht1.hg; have hne : Bo ≠ go := ht1.ne; have hB := HT.out.ltB; have hg := HT.out.lt; have x3 := (HT.out.below B1.out).cells.2.2.2; have x2 := (HT.out.below B1.out).cells.2.2.1; rw [hl] at x2; have hB' := HT'.out.ltB; have hg' := HT'.out.lt; have y3 := (HT'.out.below B1.out).cells.2.2.2; have z3 := ht1.cells.2.2.2; have zf := ht1.frozen 3; have HTo := zA ((ht1.mark true).lower (base' := w.heap.size) hsz); have B2 := zA (show Below w.heap.size w (w1.setCell ⟨Bo, 3, none⟩ (.bool true)) from below_set B1.out hBo); have x2' : (w1.setCell ⟨Bo, 3, none⟩ (.bool true)).cell? ⟨B, 2, none⟩ = some (.slice (some ⟨g, 0, none⟩) ws.length cap) := cell_far (by omega) x2; clear hb1 ht1 hsz)
 go_loopw [28] (fun s28 wr => ∃ (i : Nat) (os : List S27) (bo : Bool), i ≤ ws.length ∧ s28 = .int .i64 i ∧ Aside0 (sumL k vs us (ws.length - i) i os bo = some r) ∧ Aside0 (os.length = ws.length) ∧ Aside0 (Tab wr w.heap.size Bo go capo d n os bo) ∧ Aside0 (Below w.heap.size w wr)) (fun s28 _ => ws.length - (intOf s28).toNat)
 case atStart => exact ⟨0, _, _, Nat.zero_le _, rfl, H, ⟨by simp⟩, HTo, B2⟩
 case round =>
  clear H HTo B2 B1 x2 x2' x3 z3 zf y3
  obtain ⟨i, os, bo, hi, rfl, H, HL, HTo, BB⟩ := hrel
  have hol := HL.out
  by_cases hlt : i < ws.length
  ·have H := H.out
   obtain ⟨e', he'⟩ : ∃ e', ws.length - i = e' + 1 := ⟨ws.length - i - 1, by omega⟩
   rw [he'] at H
   simp only [sumL] at H
   obtain ⟨⟨s0, s1, s2⟩, AS, H⟩ := Option.bind_eq_some_iff.mp H
   have AS := zA AS
   rw [show e' = ws.length - (i + 1) from by omega] at H
   have HN := zA H
   clear H
   obtain ⟨v0, v1, vf⟩ := (HT.out.below BB.out).val (i : Int) (by omega) (by omega)
   rw [Int.toNat_natCast] at v0 v1
   have p1 : ((i : Int) < (ws.length : Int)) = True := eq_true (by omega)
   have p2 : (i < ws.length) = True := eq_true hlt
   have p3 : (0 ≤ (i : Int)) = True := eq_true (by omega)
   have b1 : decide ((i : Int) < (ws.length : Int)) = true := decide_eq_true (by omega)
   have hb6 := below_alloc (Below.refl wr.heap.size wr) (.cells #[.int .i64 (rd_T27 vs (i : Int)).f0, .int .i64 (rd_T27 vs (i : Int)).f1] 27)
   have HTo6 := zA (HTo.out.below hb6)
   have BB6 := zA (below_step BB.out hb6)
   have AB6 := zA (blk_new wr (.cells #[.int .i64 (rd_T27 vs (i : Int)).f0, .int .i64 (rd_T27 vs (i : Int)).f1] 27))
   have hBA : Bo < wr.heap.size := HTo.out.ltB
   have hgA : go < wr.heap.size := HTo.out.lt
   have hwA : w.heap.size ≤ wr.heap.size := below_size BB.out
   clear hb6
   go_wp2
   generalize wr.alloc (.cells #[.int .i64 (rd_T27 vs (i : Int)).f0, .int .i64 (rd_T27 vs (i : Int)).f1] 27) = W6 at HTo6 BB6 AB6 ⊢
   generalize wr.heap.size = A at AB6 hBA hgA hwA ⊢
   clear v0 v1 vf
   have x2 := HTo6.out.cells.2.2.1
   rw [hol] at x2
   have r0 : W6.cell? ⟨A, 0, none⟩ = some (.int .i64 (rd_T27 vs (i : Int)).f0) := (blk_cell AB6.out 0).trans rfl
   have r1 : W6.cell? ⟨A, 1, none⟩ = some (.int .i64 (rd_T27 vs (i : Int)).f1) := (blk_cell AB6.out 1).trans rfl
   have y2 := (HT'.out.below BB6.out).cells.2.2.1
   rw [hl'] at y2
   obtain ⟨u0, u1, uf⟩ := (HT'.out.below BB6.out).val (i : Int) (by omega) (by omega)
   rw [Int.toNat_natCast] at u0 u1
   have HK1 : Aside0 (∀ W7 : World, Below W6.heap.size W6 W7 → W7.cell? ⟨Bo, 2, none⟩ = some (.slice (some ⟨go, 0, none⟩) ws.length capo) ∧ W7.cell? ⟨A, 0, none⟩ = some (.int .i64 (rd_T27 vs (i : Int)).f0) ∧ W7.cell? ⟨A, 1, none⟩ = some (.int .i64 (rd_T27 vs (i : Int)).f1) ∧ W7.cell? ⟨B', 2, none⟩ = some (.slice (some ⟨g', 0, none⟩) ws.length cap') ∧ W7.cell? ⟨g', i * 2, none⟩ = some (.int .i64 (rd_T27 us (i : Int)).f0) ∧ W7.cell? ⟨g', i * 2 + 1, none⟩ = some (.int .i64 (rd_T27 us (i : Int)).f1)) := ⟨fun W7 hb => ⟨pw_cell_below hb x2, pw_cell_below hb r0, pw_cell_below hb r1, pw_cell_below hb y2, pw_cell_below hb u0, pw_cell_below hb u1⟩⟩
   have hAl := blk_lt AB6.out
   have h6 : w.heap.size ≤ W6.heap.size := below_size BB6.out
   clear x2 r0 r1 y2 u0 u1 uf
   refine wp_region_noPanic ?_
   refine wp_region_held_drew (S := (fun w' => w'.cell? ⟨Bo, 2, none⟩ = some (.slice (some ⟨go, 0, none⟩) ws.length capo) ∧ w'.cell? ⟨A, 0, none⟩ = some (.int .i64 (rd_T27 vs (i : Int)).f0) ∧ w'.cell? ⟨A, 1, none⟩ = some (.int .i64 (rd_T27 vs (i : Int)).f1) ∧ w'.cell? ⟨B', 2, none⟩ = some (.slice (some ⟨g', 0, none⟩) ws.length cap') ∧ w'.cell? ⟨g', i * 2, none⟩ = some (.int .i64 (rd_T27 us (i : Int)).f0) ∧ w'.cell? ⟨g', i * 2 + 1, none⟩ = some (.int .i64 (rd_T27 us (i : Int)).f1))) (by kernel_rfl) ?_ (fun hHeld => ?_)
   ·(try dsimp only)
    (exact HK1.out _ (below_drew (Below.refl _ _)))
   refine wpAnyH_take (i := 0) (v := ?v0) rfl (by kernel_rfl) (by kernel_rfl) (by kernel_rfl) (fun _ _ _ h => h) (Or.inl ⟨by rfl, ?hy0⟩) (by assumption) ?rest0
   case hy0 => (intro w hSw; (try dsimp only at hSw); go_simp; try (with_reducible rfl))
   (try simp only [Act.put, List.setIfInBounds_toArray, List.set])
   refine wpAnyH_take (i := 1) (v := ?v1) rfl (by kernel_rfl) (by kernel_rfl) (by kernel_rfl) (fun _ _ _ h => h) (Or.inl ⟨by rfl, ?hy1⟩) (by assumption) ?rest1
   case hy1 => (intro w hSw; (try dsimp only at hSw); go_simp; try (with_reducible rfl))
   (try simp only [Act.put, List.setIfInBounds_toArray, List.set])
   refine wpAnyH_take (i := 2) (v := ?v2) rfl (by kernel_rfl) (by kernel_rfl) (by kernel_rfl) (fun _ _ _ h => h) (Or.inl ⟨by rfl, ?hy2⟩) (by assumption) ?rest2
   case hy2 => (intro w hSw; (try dsimp only at hSw); go_simp; try (with_reducible rfl))
   (try simp only [Act.put, List.setIfInBounds_toArray, List.set])
   refine wpAnyH_take (i := 3) (v := ?v3) rfl (by kernel_rfl) (by kernel_rfl) (by kernel_rfl) (fun _ _ _ h => h) (Or.inl ⟨by rfl, ?hy3⟩) (by assumption) ?rest3
   case hy3 => (intro w hSw; (try dsimp only at hSw); go_simp; try (with_reducible rfl))
   (try simp only [Act.put, List.setIfInBounds_toArray, List.set])
   refine wpAnyH_take (i := 4) (v := ?v4) rfl (by kernel_rfl) (by kernel_rfl) (by kernel_rfl) (fun _ _ _ h => h) (Or.inl ⟨by rfl, ?hy4⟩) (by assumption) ?rest4
   case hy4 => (intro w hSw; (try dsimp only at hSw); go_simp; try (with_reducible rfl))
   (try simp only [Act.put, List.setIfInBounds_toArray, List.set])
   refine wpAnyH_take (i := 5) (v := ?v5) rfl (by kernel_rfl) (by kernel_rfl) (by kernel_rfl) (fun _ _ _ h => h) (Or.inl ⟨by rfl, ?hy5⟩) (by assumption) ?rest5
   case hy5 => (intro w hSw; (try dsimp only at hSw); go_simp; try (with_reducible rfl))
   (try simp only [Act.put, List.setIfInBounds_toArray, List.set])
   refine wpAnyH_take (i := 6) (v := ?v6) rfl (by kernel_rfl) (by kernel_rfl) (by kernel_rfl) (fun _ _ _ h => h) (Or.inl ⟨by rfl, ?hy6⟩) (by assumption) ?rest6
   case hy6 => (intro w hSw; (try dsimp only at hSw); go_simp; try (with_reducible rfl))
   (try simp only [Act.put, List.setIfInBounds_toArray, List.set])
   refine wpAnyH_take (i := 7) (v := ?v7) rfl (by kernel_rfl) (by kernel_rfl) (by kernel_rfl) (fun _ _ _ h => h) (Or.inl ⟨by rfl, ?hy7⟩) (by assumption) ?rest7
   case hy7 => (intro w hSw; (try dsimp only at hSw); go_simp; try (with_reducible rfl))
   (try simp only [Act.put, List.setIfInBounds_toArray, List.set])
   refine wpAnyH_take (i := 8) (v := ?v8) rfl (by kernel_rfl) (by kernel_rfl) (by kernel_rfl) (fun _ _ _ h => h) (Or.inl ⟨by rfl, ?hy8⟩) (by assumption) ?rest8
   case hy8 => (intro w hSw; (try dsimp only at hSw); go_simp; try (with_reducible rfl))
   (try simp only [Act.put, List.setIfInBounds_toArray, List.set])
   refine wpAnyH_take (i := 9) (v := ?v9) rfl (by kernel_rfl) (by kernel_rfl) (by kernel_rfl) (fun _ _ _ h => h) (Or.inl ⟨by rfl, ?hy9⟩) (by assumption) ?rest9
   case hy9 => (intro w hSw; (try dsimp only at hSw); go_simp; try (with_reducible rfl))
   (try simp only [Act.put, List.setIfInBounds_toArray, List.set])
   refine wpAnyH_take (i := 10) (v := ?v10) rfl (by kernel_rfl) (by kernel_rfl) (by kernel_rfl) (fun _ _ _ h => h) (Or.inl ⟨by rfl, ?hy10⟩) (by assumption) ?rest10
   case hy10 => (intro w hSw; (try dsimp only at hSw); go_simp; try (with_reducible rfl))
   (try simp only [Act.put, List.setIfInBounds_toArray, List.set])
   refine wpAnyH_take (i := 11) (v := ?v11) rfl (by kernel_rfl) (by kernel_rfl) (by kernel_rfl) (fun _ _ _ h => h) (Or.inl ⟨by rfl, ?hy11⟩) (by assumption) ?rest11
   case hy11 => (intro w hSw; (try dsimp only at hSw); go_simp; try (with_reducible rfl))
   (try simp only [Act.put, List.setIfInBounds_toArray, List.set])
   refine wpAnyH_take (i := 12) (v := ?v12) rfl (by kernel_rfl) (by kernel_rfl) (by kernel_rfl) (fun _ _ _ h => h) (Or.inl ⟨by rfl, ?hy12⟩) (by assumption) ?rest12
   case hy12 => (intro w hSw; (try dsimp only at hSw); go_simp; try (with_reducible rfl))
   (try simp only [Act.put, List.setIfInBounds_toArray, List.set])
   refine wpAnyH_ready (rs := [13]) (by kernel_rfl) (by simp) ?_
   refine AllReadyH.cons rfl (fun K hK => ?_) AllReadyH.nil
   go_simp
   refine hK.out _ _ ?_ (fun hHeld => ?_)
   ·(try dsimp only)
    (exact HK1.out _ (below_drew (Below.refl _ _)))
   clear hK K
   (try simp only [Act.put, List.setIfInBounds_toArray, List.set])
   refine wpAnyH_ready (rs := [14]) (by kernel_rfl) (by simp) ?_
   refine AllReadyH.cons rfl (fun K hK => ?_) AllReadyH.nil
   go_simp
   (go_at_call 115; refine (impl_Fraction_plus.calls k _ _ _ _ s0 s1 s2 _ AS.out).mono ?_; rintro e w7 ⟨rfl, hb7⟩)
   refine hK.out _ _ ?_ (fun hHeld => ?_)
   ·(try dsimp only)
    (exact HK1.out _ (below_step (below_drew (Below.refl _ _)) hb7))
   clear hK K
   (try simp only [Act.put, List.setIfInBounds_toArray, List.set])
   refine wpAnyH_take (i := 15) (v := ?v13) rfl (by kernel_rfl) (by kernel_rfl) (by kernel_rfl) (fun _ _ _ h => h) (Or.inl ⟨by rfl, ?hy13⟩) (by assumption) ?rest13
   case hy13 => (intro w hSw; (try dsimp only at hSw); go_simp; try (with_reducible rfl))
   (try simp only [Act.put, List.setIfInBounds_toArray, List.set])
   refine wpAnyH_take (i := 16) (v := ?v14) rfl (by kernel_rfl) (by kernel_rfl) (by kernel_rfl) (fun _ _ _ h => h) (Or.inl ⟨by rfl, ?hy14⟩) (by assumption) ?rest14
   case hy14 => (intro w hSw; (try dsimp only at hSw); go_simp; try (with_reducible rfl))
   (try simp only [Act.put, List.setIfInBounds_toArray, List.set])
   refine wpAnyH_ready (rs := [17]) (by kernel_rfl) (by simp) ?_
   refine AllReadyH.cons rfl (fun K hK => ?_) AllReadyH.nil
   go_simp
   (go_at_call 142; refine (check s0 s1 s2 w.heap.size Bo go capo d n os bo _ ((HTo6.out.below (below_drew (Below.refl _ _))).below hb7)).mono ?_; rintro e w8 ⟨rfl, ht8, hto8, hbb8⟩; obtain ⟨n0, n1, n2, n3, n4, n5⟩ := HK1.out _ (below_step (below_drew (Below.refl _ _)) hb7); have hs7 := hb7.size; have m0 := ht8.cells.2.2.1; rw [hol] at m0; have m1 := (cell_of_block (j := 0) (hto8.2 A (Nat.lt_of_lt_of_le (show A < W6.heap.size by omega) hs7) (by omega))).trans n1; have m2 := (cell_of_block (j := 1) (hto8.2 A (Nat.lt_of_lt_of_le (show A < W6.heap.size by omega) hs7) (by omega))).trans n2; have m3 := (cell_of_block (j := 2) (hto8.2 B' (Nat.lt_of_lt_of_le (show B' < W6.heap.size by omega) hs7) (by omega))).trans n3; have m4 := (cell_of_block (j := i * 2) (hto8.2 g' (Nat.lt_of_lt_of_le (show g' < W6.heap.size by omega) hs7) (by omega))).trans n4; have m5 := (cell_of_block (j := i * 2 + 1) (hto8.2 g' (Nat.lt_of_lt_of_le (show g' < W6.heap.size by omega) hs7) (by omega))).trans n5; obtain ⟨gv0, gv1, gvf⟩ := ht8.val (i : Int) (by omega) (by omega); rw [Int.toNat_natCast] at gv0 gv1; have gf0 := gvf (i * 2); have gf1 := gvf (i * 2 + 1); clear n0 n1 n2 n3 n4 n5 gvf)
   refine hK.out _ _ ?_ (fun hHeld => ?_)
   ·(try dsimp only)
    (exact ⟨m0, m1, m2, m3, m4, m5⟩)
   clear hK K
   (try simp only [Act.put, List.setIfInBounds_toArray, List.set])
   refine wpAnyH_take (i := 18) (v := ?v15) rfl (by kernel_rfl) (by kernel_rfl) (by kernel_rfl) (fun _ _ _ h => h) (Or.inl ⟨by rfl, ?hy15⟩) (by assumption) ?rest15
   case hy15 => (intro w hSw; (try dsimp only at hSw); go_simp; try (with_reducible rfl))
   (try simp only [Act.put, List.setIfInBounds_toArray, List.set])
   refine wpAnyH_ready (rs := [19]) (by kernel_rfl) (by simp) ?_
   refine AllReadyH.cons rfl (fun K hK => ?_) AllReadyH.nil
   go_simp
   refine hK.out _ _ ?_ (fun hHeld => ?_)
   ·(try dsimp only)
    (exact ⟨cell_far (by omega) (cell_far (by omega) m0), cell_far (by omega) (cell_far (by omega) m1), cell_far (by omega) (cell_far (by omega) m2), cell_far (by omega) (cell_far (by omega) m3), cell_far (by omega) (cell_far (by omega) m4), cell_far (by omega) (cell_far (by omega) m5)⟩)
   clear hK K
   (try simp only [Act.put, List.setIfInBounds_toArray, List.set])
   refine wpAnyH_done (by kernel_rfl) ?_ _
   refine NoPanic.normal ?_
   go_wp2
   have hp := ht8.put (i : Int) (by omega) (by omega) (sel s2 s0 0) (sel s2 s1 1)
   rw [Int.toNat_natCast] at hp
   have hb9 : Below w.heap.size w w8 := (below_step (below_drew BB6.out) hb7).trans (hbb8 w.heap.size (by omega))
   refine ⟨⟨i + 1, _, _, by omega, by go_num, HN, ⟨(addV_len _ _ _ _ _).trans hol⟩, ⟨hp⟩, ⟨below_set (below_set hb9 hgo) hgo⟩⟩, by simp [intOf]; omega⟩
  ·obtain rfl : i = ws.length := by omega
   have H := H.out
   rw [Nat.sub_self] at H
   simp only [sumL] at H
   cases H
   have b1 : decide ((ws.length : Int) < (ws.length : Int)) = false := decide_eq_false (by omega)
   have b2 : ((ws.length : Int) < (ws.length : Int)) = False := eq_false (by omega)
   have b3 : (ws.length < ws.length) = False := eq_false (by omega)
   go_wp2
   refine bodyPost_ret (results_tmp rfl _ _ _) rfl ?_
   exact ⟨Bo, rfl, ⟨go, capo, HTo.out⟩, BB.out⟩
set_option maxHeartbeats 16000000 in
set_option maxRecDepth 100000 in
theorem sum_false (k : Nat) (d n : Int) (ws : List ByteArray) (hk : impl_allWords.f k d n = some ws) (h1 : 1 ≤ ws.length) (h2 : ws.length ≤ 1000) (base B g cap : Nat) (vs : List S27) (hl : vs.length = ws.length) (base' B' g' cap' : Nat) (us : List S27) (bad' : Bool) (hl' : us.length = ws.length) (r : List S27 × Bool) (hs : sumL k vs us ws.length 0 (List.replicate ws.length ⟨0, 1⟩) (false || bad') = some r) (w : World) (h : Tab w base B g cap d n vs false) (h' : Tab w base' B' g' cap' d n us bad') :
 Calls Try.prog 176 #[.pointer (some ⟨B, 0, none⟩), .pointer (some ⟨B', 0, none⟩)] w fun e w' => ∃ Bo go capo, e = .returned (.pointer (some ⟨Bo, 0, none⟩)) ∧ Tab w' w.heap.size Bo go capo d n r.1 r.2 ∧ Below w.heap.size w w' := by
 have HT := zA h
 have HK := zA hk
 clear h hk
 have HT' := zA h'
 clear h'
 have H := zA (show sumL k vs us ws.length 0 (List.replicate ws.length ⟨0, 1⟩) bad' = some r from hs)
 clear hs
 go_enter Try.func176, Try.ntmps176
 go_wp2_with (go_at_call 133; refine (like k d n ws HK.out h1 h2 base B g cap vs false _ HT.out).mono ?_; rintro e w1 ⟨Bo, go, capo, rfl, ht1, hb1⟩; have B1 := zA (hb1); have hsz : w.heap.size ≤ w.heap.size := Nat.le_refl _; have hBo : w.heap.size ≤ Bo := Nat.le_trans hsz ht1.hB; have hgo : w.heap.size ≤ go := Nat.le_trans hsz ht1.hg; have hne : Bo ≠ go := ht1.ne; have hB := HT.out.ltB; have hg := HT.out.lt; have x3 := (HT.out.below B1.out).cells.2.2.2; have x2 := (HT.out.below B1.out).cells.2.2.1; rw [hl] at x2; have hB' := HT'.out.ltB; have hg' := HT'.out.lt; have y3 := (HT'.out.below B1.out).cells.2.2.2; have z3 := ht1.cells.2.2.2; have zf := ht1.frozen 3; have HTo := zA ((ht1.mark bad').lower (base' := w.heap.size) hsz); have B2 := zA (show Below w.heap.size w (w1.setCell ⟨Bo, 3, none⟩ (.bool bad')) from below_set B1.out hBo); have x2' : (w1.setCell ⟨Bo, 3, none⟩ (.bool bad')).cell? ⟨B, 2, none⟩ = some (.slice (some ⟨g, 0, none⟩) ws.length cap) := cell_far (by omega) x2; clear hb1 ht1 hsz)
 go_loopw [28] (fun s28 wr => ∃ (i : Nat) (os : List S27) (bo : Bool), i ≤ ws.length ∧ s28 = .int .i64 i ∧ Aside0 (sumL k vs us (ws.length - i) i os bo = some r) ∧ Aside0 (os.length = ws.length) ∧ Aside0 (Tab wr w.heap.size Bo go capo d n os bo) ∧ Aside0 (Below w.heap.size w wr)) (fun s28 _ => ws.length - (intOf s28).toNat)
 case atStart => exact ⟨0, _, _, Nat.zero_le _, rfl, H, ⟨by simp⟩, HTo, B2⟩
 case round =>
  clear H HTo B2 B1 x2 x2' x3 z3 zf y3
  obtain ⟨i, os, bo, hi, rfl, H, HL, HTo, BB⟩ := hrel
  have hol := HL.out
  by_cases hlt : i < ws.length
  ·have H := H.out
   obtain ⟨e', he'⟩ : ∃ e', ws.length - i = e' + 1 := ⟨ws.length - i - 1, by omega⟩
   rw [he'] at H
   simp only [sumL] at H
   obtain ⟨⟨s0, s1, s2⟩, AS, H⟩ := Option.bind_eq_some_iff.mp H
   have AS := zA AS
   rw [show e' = ws.length - (i + 1) from by omega] at H
   have HN := zA H
   clear H
   obtain ⟨v0, v1, vf⟩ := (HT.out.below BB.out).val (i : Int) (by omega) (by omega)
   rw [Int.toNat_natCast] at v0 v1
   have p1 : ((i : Int) < (ws.length : Int)) = True := eq_true (by omega)
   have p2 : (i < ws.length) = True := eq_true hlt
   have p3 : (0 ≤ (i : Int)) = True := eq_true (by omega)
   have b1 : decide ((i : Int) < (ws.length : Int)) = true := decide_eq_true (by omega)
   have hb6 := below_alloc (Below.refl wr.heap.size wr) (.cells #[.int .i64 (rd_T27 vs (i : Int)).f0, .int .i64 (rd_T27 vs (i : Int)).f1] 27)
   have HTo6 := zA (HTo.out.below hb6)
   have BB6 := zA (below_step BB.out hb6)
   have AB6 := zA (blk_new wr (.cells #[.int .i64 (rd_T27 vs (i : Int)).f0, .int .i64 (rd_T27 vs (i : Int)).f1] 27))
   have hBA : Bo < wr.heap.size := HTo.out.ltB
   have hgA : go < wr.heap.size := HTo.out.lt
   have hwA : w.heap.size ≤ wr.heap.size := below_size BB.out
   clear hb6
   go_wp2
   generalize wr.alloc (.cells #[.int .i64 (rd_T27 vs (i : Int)).f0, .int .i64 (rd_T27 vs (i : Int)).f1] 27) = W6 at HTo6 BB6 AB6 ⊢
   generalize wr.heap.size = A at AB6 hBA hgA hwA ⊢
   clear v0 v1 vf
   have x2 := HTo6.out.cells.2.2.1
   rw [hol] at x2
   have r0 : W6.cell? ⟨A, 0, none⟩ = some (.int .i64 (rd_T27 vs (i : Int)).f0) := (blk_cell AB6.out 0).trans rfl
   have r1 : W6.cell? ⟨A, 1, none⟩ = some (.int .i64 (rd_T27 vs (i : Int)).f1) := (blk_cell AB6.out 1).trans rfl
   have y2 := (HT'.out.below BB6.out).cells.2.2.1
   rw [hl'] at y2
   obtain ⟨u0, u1, uf⟩ := (HT'.out.below BB6.out).val (i : Int) (by omega) (by omega)
   rw [Int.toNat_natCast] at u0 u1
   have HK1 : Aside0 (∀ W7 : World, Below W6.heap.size W6 W7 → W7.cell? ⟨Bo, 2, none⟩ = some (.slice (some ⟨go, 0, none⟩) ws.length capo) ∧ W7.cell? ⟨A, 0, none⟩ = some (.int .i64 (rd_T27 vs (i : Int)).f0) ∧ W7.cell? ⟨A, 1, none⟩ = some (.int .i64 (rd_T27 vs (i : Int)).f1) ∧ W7.cell? ⟨B', 2, none⟩ = some (.slice (some ⟨g', 0, none⟩) ws.length cap') ∧ W7.cell? ⟨g', i * 2, none⟩ = some (.int .i64 (rd_T27 us (i : Int)).f0) ∧ W7.cell? ⟨g', i * 2 + 1, none⟩ = some (.int .i64 (rd_T27 us (i : Int)).f1)) := ⟨fun W7 hb => ⟨pw_cell_below hb x2, pw_cell_below hb r0, pw_cell_below hb r1, pw_cell_below hb y2, pw_cell_below hb u0, pw_cell_below hb u1⟩⟩
   have hAl := blk_lt AB6.out
   have h6 : w.heap.size ≤ W6.heap.size := below_size BB6.out
   clear x2 r0 r1 y2 u0 u1 uf
   refine wp_region_noPanic ?_
   refine wp_region_held_drew (S := (fun w' => w'.cell? ⟨Bo, 2, none⟩ = some (.slice (some ⟨go, 0, none⟩) ws.length capo) ∧ w'.cell? ⟨A, 0, none⟩ = some (.int .i64 (rd_T27 vs (i : Int)).f0) ∧ w'.cell? ⟨A, 1, none⟩ = some (.int .i64 (rd_T27 vs (i : Int)).f1) ∧ w'.cell? ⟨B', 2, none⟩ = some (.slice (some ⟨g', 0, none⟩) ws.length cap') ∧ w'.cell? ⟨g', i * 2, none⟩ = some (.int .i64 (rd_T27 us (i : Int)).f0) ∧ w'.cell? ⟨g', i * 2 + 1, none⟩ = some (.int .i64 (rd_T27 us (i : Int)).f1))) (by kernel_rfl) ?_ (fun hHeld => ?_)
   ·(try dsimp only)
    (exact HK1.out _ (below_drew (Below.refl _ _)))
   refine wpAnyH_take (i := 0) (v := ?v0) rfl (by kernel_rfl) (by kernel_rfl) (by kernel_rfl) (fun _ _ _ h => h) (Or.inl ⟨by rfl, ?hy0⟩) (by assumption) ?rest0
   case hy0 => (intro w hSw; (try dsimp only at hSw); go_simp; try (with_reducible rfl))
   (try simp only [Act.put, List.setIfInBounds_toArray, List.set])
   refine wpAnyH_take (i := 1) (v := ?v1) rfl (by kernel_rfl) (by kernel_rfl) (by kernel_rfl) (fun _ _ _ h => h) (Or.inl ⟨by rfl, ?hy1⟩) (by assumption) ?rest1
   case hy1 => (intro w hSw; (try dsimp only at hSw); go_simp; try (with_reducible rfl))
   (try simp only [Act.put, List.setIfInBounds_toArray, List.set])
   refine wpAnyH_take (i := 2) (v := ?v2) rfl (by kernel_rfl) (by kernel_rfl) (by kernel_rfl) (fun _ _ _ h => h) (Or.inl ⟨by rfl, ?hy2⟩) (by assumption) ?rest2
   case hy2 => (intro w hSw; (try dsimp only at hSw); go_simp; try (with_reducible rfl))
   (try simp only [Act.put, List.setIfInBounds_toArray, List.set])
   refine wpAnyH_take (i := 3) (v := ?v3) rfl (by kernel_rfl) (by kernel_rfl) (by kernel_rfl) (fun _ _ _ h => h) (Or.inl ⟨by rfl, ?hy3⟩) (by assumption) ?rest3
   case hy3 => (intro w hSw; (try dsimp only at hSw); go_simp; try (with_reducible rfl))
   (try simp only [Act.put, List.setIfInBounds_toArray, List.set])
   refine wpAnyH_take (i := 4) (v := ?v4) rfl (by kernel_rfl) (by kernel_rfl) (by kernel_rfl) (fun _ _ _ h => h) (Or.inl ⟨by rfl, ?hy4⟩) (by assumption) ?rest4
   case hy4 => (intro w hSw; (try dsimp only at hSw); go_simp; try (with_reducible rfl))
   (try simp only [Act.put, List.setIfInBounds_toArray, List.set])
   refine wpAnyH_take (i := 5) (v := ?v5) rfl (by kernel_rfl) (by kernel_rfl) (by kernel_rfl) (fun _ _ _ h => h) (Or.inl ⟨by rfl, ?hy5⟩) (by assumption) ?rest5
   case hy5 => (intro w hSw; (try dsimp only at hSw); go_simp; try (with_reducible rfl))
   (try simp only [Act.put, List.setIfInBounds_toArray, List.set])
   refine wpAnyH_take (i := 6) (v := ?v6) rfl (by kernel_rfl) (by kernel_rfl) (by kernel_rfl) (fun _ _ _ h => h) (Or.inl ⟨by rfl, ?hy6⟩) (by assumption) ?rest6
   case hy6 => (intro w hSw; (try dsimp only at hSw); go_simp; try (with_reducible rfl))
   (try simp only [Act.put, List.setIfInBounds_toArray, List.set])
   refine wpAnyH_take (i := 7) (v := ?v7) rfl (by kernel_rfl) (by kernel_rfl) (by kernel_rfl) (fun _ _ _ h => h) (Or.inl ⟨by rfl, ?hy7⟩) (by assumption) ?rest7
   case hy7 => (intro w hSw; (try dsimp only at hSw); go_simp; try (with_reducible rfl))
   (try simp only [Act.put, List.setIfInBounds_toArray, List.set])
   refine wpAnyH_take (i := 8) (v := ?v8) rfl (by kernel_rfl) (by kernel_rfl) (by kernel_rfl) (fun _ _ _ h => h) (Or.inl ⟨by rfl, ?hy8⟩) (by assumption) ?rest8
   case hy8 => (intro w hSw; (try dsimp only at hSw); go_simp; try (with_reducible rfl))
   (try simp only [Act.put, List.setIfInBounds_toArray, List.set])
   refine wpAnyH_take (i := 9) (v := ?v9) rfl (by kernel_rfl) (by kernel_rfl) (by kernel_rfl) (fun _ _ _ h => h) (Or.inl ⟨by rfl, ?hy9⟩) (by assumption) ?rest9
   case hy9 => (intro w hSw; (try dsimp only at hSw); go_simp; try (with_reducible rfl))
   (try simp only [Act.put, List.setIfInBounds_toArray, List.set])
   refine wpAnyH_take (i := 10) (v := ?v10) rfl (by kernel_rfl) (by kernel_rfl) (by kernel_rfl) (fun _ _ _ h => h) (Or.inl ⟨by rfl, ?hy10⟩) (by assumption) ?rest10
   case hy10 => (intro w hSw; (try dsimp only at hSw); go_simp; try (with_reducible rfl))
   (try simp only [Act.put, List.setIfInBounds_toArray, List.set])
   refine wpAnyH_take (i := 11) (v := ?v11) rfl (by kernel_rfl) (by kernel_rfl) (by kernel_rfl) (fun _ _ _ h => h) (Or.inl ⟨by rfl, ?hy11⟩) (by assumption) ?rest11
   case hy11 => (intro w hSw; (try dsimp only at hSw); go_simp; try (with_reducible rfl))
   (try simp only [Act.put, List.setIfInBounds_toArray, List.set])
   refine wpAnyH_take (i := 12) (v := ?v12) rfl (by kernel_rfl) (by kernel_rfl) (by kernel_rfl) (fun _ _ _ h => h) (Or.inl ⟨by rfl, ?hy12⟩) (by assumption) ?rest12
   case hy12 => (intro w hSw; (try dsimp only at hSw); go_simp; try (with_reducible rfl))
   (try simp only [Act.put, List.setIfInBounds_toArray, List.set])
   refine wpAnyH_ready (rs := [13]) (by kernel_rfl) (by simp) ?_
   refine AllReadyH.cons rfl (fun K hK => ?_) AllReadyH.nil
   go_simp
   refine hK.out _ _ ?_ (fun hHeld => ?_)
   ·(try dsimp only)
    (exact HK1.out _ (below_drew (Below.refl _ _)))
   clear hK K
   (try simp only [Act.put, List.setIfInBounds_toArray, List.set])
   refine wpAnyH_ready (rs := [14]) (by kernel_rfl) (by simp) ?_
   refine AllReadyH.cons rfl (fun K hK => ?_) AllReadyH.nil
   go_simp
   (go_at_call 115; refine (impl_Fraction_plus.calls k _ _ _ _ s0 s1 s2 _ AS.out).mono ?_; rintro e w7 ⟨rfl, hb7⟩)
   refine hK.out _ _ ?_ (fun hHeld => ?_)
   ·(try dsimp only)
    (exact HK1.out _ (below_step (below_drew (Below.refl _ _)) hb7))
   clear hK K
   (try simp only [Act.put, List.setIfInBounds_toArray, List.set])
   refine wpAnyH_take (i := 15) (v := ?v13) rfl (by kernel_rfl) (by kernel_rfl) (by kernel_rfl) (fun _ _ _ h => h) (Or.inl ⟨by rfl, ?hy13⟩) (by assumption) ?rest13
   case hy13 => (intro w hSw; (try dsimp only at hSw); go_simp; try (with_reducible rfl))
   (try simp only [Act.put, List.setIfInBounds_toArray, List.set])
   refine wpAnyH_take (i := 16) (v := ?v14) rfl (by kernel_rfl) (by kernel_rfl) (by kernel_rfl) (fun _ _ _ h => h) (Or.inl ⟨by rfl, ?hy14⟩) (by assumption) ?rest14
   case hy14 => (intro w hSw; (try dsimp only at hSw); go_simp; try (with_reducible rfl))
   (try simp only [Act.put, List.setIfInBounds_toArray, List.set])
   refine wpAnyH_ready (rs := [17]) (by kernel_rfl) (by simp) ?_
   refine AllReadyH.cons rfl (fun K hK => ?_) AllReadyH.nil
   go_simp
   (go_at_call 142; refine (check s0 s1 s2 w.heap.size Bo go capo d n os bo _ ((HTo6.out.below (below_drew (Below.refl _ _))).below hb7)).mono ?_; rintro e w8 ⟨rfl, ht8, hto8, hbb8⟩; obtain ⟨n0, n1, n2, n3, n4, n5⟩ := HK1.out _ (below_step (below_drew (Below.refl _ _)) hb7); have hs7 := hb7.size; have m0 := ht8.cells.2.2.1; rw [hol] at m0; have m1 := (cell_of_block (j := 0) (hto8.2 A (Nat.lt_of_lt_of_le (show A < W6.heap.size by omega) hs7) (by omega))).trans n1; have m2 := (cell_of_block (j := 1) (hto8.2 A (Nat.lt_of_lt_of_le (show A < W6.heap.size by omega) hs7) (by omega))).trans n2; have m3 := (cell_of_block (j := 2) (hto8.2 B' (Nat.lt_of_lt_of_le (show B' < W6.heap.size by omega) hs7) (by omega))).trans n3; have m4 := (cell_of_block (j := i * 2) (hto8.2 g' (Nat.lt_of_lt_of_le (show g' < W6.heap.size by omega) hs7) (by omega))).trans n4; have m5 := (cell_of_block (j := i * 2 + 1) (hto8.2 g' (Nat.lt_of_lt_of_le (show g' < W6.heap.size by omega) hs7) (by omega))).trans n5; obtain ⟨gv0, gv1, gvf⟩ := ht8.val (i : Int) (by omega) (by omega); rw [Int.toNat_natCast] at gv0 gv1; have gf0 := gvf (i * 2); have gf1 := gvf (i * 2 + 1); clear n0 n1 n2 n3 n4 n5 gvf)
   refine hK.out _ _ ?_ (fun hHeld => ?_)
   ·(try dsimp only)
    (exact ⟨m0, m1, m2, m3, m4, m5⟩)
   clear hK K
   (try simp only [Act.put, List.setIfInBounds_toArray, List.set])
   refine wpAnyH_take (i := 18) (v := ?v15) rfl (by kernel_rfl) (by kernel_rfl) (by kernel_rfl) (fun _ _ _ h => h) (Or.inl ⟨by rfl, ?hy15⟩) (by assumption) ?rest15
   case hy15 => (intro w hSw; (try dsimp only at hSw); go_simp; try (with_reducible rfl))
   (try simp only [Act.put, List.setIfInBounds_toArray, List.set])
   refine wpAnyH_ready (rs := [19]) (by kernel_rfl) (by simp) ?_
   refine AllReadyH.cons rfl (fun K hK => ?_) AllReadyH.nil
   go_simp
   refine hK.out _ _ ?_ (fun hHeld => ?_)
   ·(try dsimp only)
    (exact ⟨cell_far (by omega) (cell_far (by omega) m0), cell_far (by omega) (cell_far (by omega) m1), cell_far (by omega) (cell_far (by omega) m2), cell_far (by omega) (cell_far (by omega) m3), cell_far (by omega) (cell_far (by omega) m4), cell_far (by omega) (cell_far (by omega) m5)⟩)
   clear hK K
   (try simp only [Act.put, List.setIfInBounds_toArray, List.set])
   refine wpAnyH_done (by kernel_rfl) ?_ _
   refine NoPanic.normal ?_
   go_wp2
   have hp := ht8.put (i : Int) (by omega) (by omega) (sel s2 s0 0) (sel s2 s1 1)
   rw [Int.toNat_natCast] at hp
   have hb9 : Below w.heap.size w w8 := (below_step (below_drew BB6.out) hb7).trans (hbb8 w.heap.size (by omega))
   refine ⟨⟨i + 1, _, _, by omega, by go_num, HN, ⟨(addV_len _ _ _ _ _).trans hol⟩, ⟨hp⟩, ⟨below_set (below_set hb9 hgo) hgo⟩⟩, by simp [intOf]; omega⟩
  ·obtain rfl : i = ws.length := by omega
   have H := H.out
   rw [Nat.sub_self] at H
   simp only [sumL] at H
   cases H
   have b1 : decide ((ws.length : Int) < (ws.length : Int)) = false := decide_eq_false (by omega)
   have b2 : ((ws.length : Int) < (ws.length : Int)) = False := eq_false (by omega)
   have b3 : (ws.length < ws.length) = False := eq_false (by omega)
   go_wp2
   refine bodyPost_ret (results_tmp rfl _ _ _) rfl ?_
   exact ⟨Bo, rfl, ⟨go, capo, HTo.out⟩, BB.out⟩
set_option maxHeartbeats 16000000 in
set_option maxRecDepth 100000 in
theorem sum (k : Nat) (d n : Int) (ws : List ByteArray) (hk : impl_allWords.f k d n = some ws) (h1 : 1 ≤ ws.length) (h2 : ws.length ≤ 1000) (base B g cap : Nat) (vs : List S27) (bad : Bool) (hl : vs.length = ws.length) (base' B' g' cap' : Nat) (us : List S27) (bad' : Bool) (hl' : us.length = ws.length) (r : List S27 × Bool) (hs : sumL k vs us ws.length 0 (List.replicate ws.length ⟨0, 1⟩) (bad || bad') = some r) (w : World) (h : Tab w base B g cap d n vs bad) (h' : Tab w base' B' g' cap' d n us bad') :
 Calls Try.prog 176 #[.pointer (some ⟨B, 0, none⟩), .pointer (some ⟨B', 0, none⟩)] w fun e w' => ∃ Bo go capo, e = .returned (.pointer (some ⟨Bo, 0, none⟩)) ∧ Tab w' w.heap.size Bo go capo d n r.1 r.2 ∧ Below w.heap.size w w' := by
 cases bad with
 | true => exact sum_true k d n ws hk h1 h2 base B g cap vs hl base' B' g' cap' us bad' hl' r hs w h h'
 | false => exact sum_false k d n ws hk h1 h2 base B g cap vs hl base' B' g' cap' us bad' hl' r hs w h h'
end Go.Proofs.Ytcklefgkbddlhaa.Tab
