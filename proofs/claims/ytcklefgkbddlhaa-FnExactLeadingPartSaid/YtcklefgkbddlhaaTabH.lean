/- A table like another one, the unit, and a value at a word: what calls of them come to. -/
import Derived.Test.YtcklefgkbddlhaaPx10
import Derived.Test.YtcklefgkbddlhaaTabD
namespace Go.Proofs.Ytcklefgkbddlhaa.Tab
open Go.RowKit Go.Proofs.Ytcklefgkbddlhaa.P Go.Proofs.YtcklefgkbddlhaaW.PrintWords Go.Proofs.YtcklefgkbddlhaaW.PrintLast Go.Proofs.YtcklefgkbddlhaaW.PrintMore
set_option linter.unusedVariables false
set_option linter.unusedSimpArgs false

set_option maxHeartbeats 8000000 in
set_option maxRecDepth 100000 in
theorem like (k : Nat) (d n : Int) (ws : List ByteArray) (hk : impl_allWords.f k d n = some ws) (h1 : 1 ≤ ws.length) (h2 : ws.length ≤ 1000) (base B g cap : Nat) (vs : List S27) (bad : Bool) (w : World) (h : Tab w base B g cap d n vs bad) :
    Calls Try.prog 133 #[.pointer (some ⟨B, 0, none⟩)] w fun e w' => ∃ B' g' cap', e = .returned (.pointer (some ⟨B', 0, none⟩)) ∧ Tab w' w.heap.size B' g' cap' d n (List.replicate ws.length ⟨0, 1⟩) false ∧ Below w.heap.size w w' := by
  have HT := Aside0.mk h
  obtain ⟨x0, x1, x2, x3⟩ := h.cells
  have HK := Aside0.mk hk
  clear h hk x2 x3
  go_enter Try.func133, Try.ntmps133
  go_wp2
  go_region_held3 (fun w' => w'.cell? ⟨B, 0, none⟩ = some (.int .i64 d) ∧ w'.cell? ⟨B, 1, none⟩ = some (.int .i64 n)) (first | exact ⟨pw_cell_below hb1 x0, pw_cell_below hb1 x1⟩ | go_keep) (first | (go_at_call 85; refine (newTable k d n ws HK.out h1 h2 _).mono ?_; rintro e w1 ⟨B', g', cap', rfl, ht1, hb1⟩))
  all_goals go_wp2
  go_ret
  exact ⟨B', g', cap', rfl, ht1, below_step (below_drew (Below.refl _ _)) hb1⟩
theorem cell_far {w : World} {A b j j' : Nat} {u x : Value} (hb : b ≠ A) (h : w.cell? ⟨b, j, none⟩ = some u) : (w.setCell ⟨A, j', none⟩ x).cell? ⟨b, j, none⟩ = some u := (cell_of_block (Below.heap_setCell w ⟨A, j', none⟩ x b hb)).trans h
set_option maxHeartbeats 8000000 in
set_option maxRecDepth 100000 in
theorem at_ (k : Nat) (base B g cap : Nat) (d n : Int) (vs : List S27) (bad : Bool) (word : ByteArray) (i : Nat) (hi : impl_number.f k d word = some (i : Int)) (hlt : i < vs.length) (w : World) (h : Tab w base B g cap d n vs bad) :
    Calls Try.prog 137 #[.pointer (some ⟨B, 0, none⟩), .string word] w fun e w' => e = .returned (.agg #[.int .i64 (rd_T27 vs (i : Int)).f0, .int .i64 (rd_T27 vs (i : Int)).f1]) ∧ Below w.heap.size w w' := by
  have HT := Aside0.mk h
  have HI := Aside0.mk hi
  clear h hi
  have R0 := Aside0.mk (blk_new w (.cells #[.int .i64 0, .int .i64 0] 27))
  have T1 := Aside0.mk (HT.out.below (below_alloc (Below.refl _ _) (.cells #[.int .i64 0, .int .i64 0] 27)))
  have b1 := below_alloc (Below.refl w.heap.size w) (.cells #[.int .i64 0, .int .i64 0] 27)
  obtain ⟨x0, x1, x2, x3⟩ := T1.out.cells
  obtain ⟨v0, v1, vf⟩ := T1.out.val (i : Int) (by omega) (by omega)
  rw [Int.toNat_natCast] at v0 v1
  have p1 : (0 ≤ (i : Int)) = True := eq_true (by omega)
  have p2 : ((i : Int) < (vs.length : Int)) = True := eq_true (by omega)
  have p3 : (i < vs.length) = True := eq_true hlt
  have hk1 : ∀ W7 : World, Below (w.alloc (.cells #[.int .i64 0, .int .i64 0] 27)).heap.size (w.alloc (.cells #[.int .i64 0, .int .i64 0] 27)) W7 → W7.cell? ⟨B, 0, none⟩ = some (.int .i64 d) ∧ W7.cell? ⟨B, 2, none⟩ = some (.slice (some ⟨g, 0, none⟩) vs.length cap) ∧ W7.cell? ⟨g, i * 2, none⟩ = some (.int .i64 (rd_T27 vs (i : Int)).f0) ∧ W7.cell? ⟨g, i * 2 + 1, none⟩ = some (.int .i64 (rd_T27 vs (i : Int)).f1) ∧ W7.heap[w.heap.size]? = some (.cells #[.int .i64 0, .int .i64 0] 27 (0, 0)) :=
    fun W7 hb => ⟨pw_cell_below hb x0, pw_cell_below hb x2, pw_cell_below hb v0, pw_cell_below hb v1, (hb.block w.heap.size (by simp)).trans R0.out⟩
  have HK1 := Aside0.mk hk1
  have HB1 := Aside0.mk b1
  clear hk1 x1 x3 vf b1
  have hAB : B ≠ w.heap.size := Nat.ne_of_lt HT.out.ltB
  have hAg : g ≠ w.heap.size := Nat.ne_of_lt HT.out.lt
  go_enter Try.func137, Try.ntmps137
  go_wp2
  generalize w.alloc (.cells #[.int .i64 0, .int .i64 0] 27) = W1 at HK1 HB1 T1 R0 x0 x2 v0 v1 ⊢
  refine wp_region_noPanic ?_
  refine wp_region_held_drew (S := (fun w' => w'.cell? ⟨B, 0, none⟩ = some (.int .i64 d) ∧ w'.cell? ⟨B, 2, none⟩ = some (.slice (some ⟨g, 0, none⟩) vs.length cap) ∧ w'.cell? ⟨g, i * 2, none⟩ = some (.int .i64 (rd_T27 vs (i : Int)).f0) ∧ w'.cell? ⟨g, i * 2 + 1, none⟩ = some (.int .i64 (rd_T27 vs (i : Int)).f1))) (by kernel_rfl) ?_ (fun hHeld => ?_)
  · (try dsimp only)
    (exact ⟨(HK1.out _ (below_drew (Below.refl _ _))).1, (HK1.out _ (below_drew (Below.refl _ _))).2.1, (HK1.out _ (below_drew (Below.refl _ _))).2.2.1, (HK1.out _ (below_drew (Below.refl _ _))).2.2.2.1⟩)
  refine wpAnyH_take (i := 0) (v := ?v0) rfl (by kernel_rfl) (by kernel_rfl) (by kernel_rfl) (fun _ _ _ h => h) (Or.inl ⟨by rfl, ?hy0⟩) (by assumption) ?rest0
  case hy0 => (intro w hSw; (try dsimp only at hSw); go_simp; try (with_reducible rfl))
  (try simp only [Act.put, List.setIfInBounds_toArray, List.set_cons_zero, List.set_cons_succ])
  refine wpAnyH_take (i := 1) (v := ?v1) rfl (by kernel_rfl) (by kernel_rfl) (by kernel_rfl) (fun _ _ _ h => h) (Or.inl ⟨by rfl, ?hy1⟩) (by assumption) ?rest1
  case hy1 => (intro w hSw; (try dsimp only at hSw); go_simp; try (with_reducible rfl))
  (try simp only [Act.put, List.setIfInBounds_toArray, List.set_cons_zero, List.set_cons_succ])
  refine wpAnyH_take (i := 2) (v := ?v2) rfl (by kernel_rfl) (by kernel_rfl) (by kernel_rfl) (fun _ _ _ h => h) (Or.inl ⟨by rfl, ?hy2⟩) (by assumption) ?rest2
  case hy2 => (intro w hSw; (try dsimp only at hSw); go_simp; try (with_reducible rfl))
  (try simp only [Act.put, List.setIfInBounds_toArray, List.set_cons_zero, List.set_cons_succ])
  refine wpAnyH_take (i := 3) (v := ?v3) rfl (by kernel_rfl) (by kernel_rfl) (by kernel_rfl) (fun _ _ _ h => h) (Or.inl ⟨by rfl, ?hy3⟩) (by assumption) ?rest3
  case hy3 => (intro w hSw; (try dsimp only at hSw); go_simp; try (with_reducible rfl))
  (try simp only [Act.put, List.setIfInBounds_toArray, List.set_cons_zero, List.set_cons_succ])
  refine wpAnyH_take (i := 4) (v := ?v4) rfl (by kernel_rfl) (by kernel_rfl) (by kernel_rfl) (fun _ _ _ h => h) (Or.inl ⟨by rfl, ?hy4⟩) (by assumption) ?rest4
  case hy4 => (intro w hSw; (try dsimp only at hSw); go_simp; try (with_reducible rfl))
  (try simp only [Act.put, List.setIfInBounds_toArray, List.set_cons_zero, List.set_cons_succ])
  refine wpAnyH_take (i := 5) (v := ?v5) rfl (by kernel_rfl) (by kernel_rfl) (by kernel_rfl) (fun _ _ _ h => h) (Or.inl ⟨by rfl, ?hy5⟩) (by assumption) ?rest5
  case hy5 => (intro w hSw; (try dsimp only at hSw); go_simp; try (with_reducible rfl))
  (try simp only [Act.put, List.setIfInBounds_toArray, List.set_cons_zero, List.set_cons_succ])
  refine wpAnyH_take (i := 6) (v := ?v6) rfl (by kernel_rfl) (by kernel_rfl) (by kernel_rfl) (fun _ _ _ h => h) (Or.inl ⟨by rfl, ?hy6⟩) (by assumption) ?rest6
  case hy6 => (intro w hSw; (try dsimp only at hSw); go_simp; try (with_reducible rfl))
  (try simp only [Act.put, List.setIfInBounds_toArray, List.set_cons_zero, List.set_cons_succ])
  refine wpAnyH_take (i := 7) (v := ?v7) rfl (by kernel_rfl) (by kernel_rfl) (by kernel_rfl) (fun _ _ _ h => h) (Or.inl ⟨by rfl, ?hy7⟩) (by assumption) ?rest7
  case hy7 => (intro w hSw; (try dsimp only at hSw); go_simp; try (with_reducible rfl))
  (try simp only [Act.put, List.setIfInBounds_toArray, List.set_cons_zero, List.set_cons_succ])
  refine wpAnyH_take (i := 8) (v := ?v8) rfl (by kernel_rfl) (by kernel_rfl) (by kernel_rfl) (fun _ _ _ h => h) (Or.inl ⟨by rfl, ?hy8⟩) (by assumption) ?rest8
  case hy8 => (intro w hSw; (try dsimp only at hSw); go_simp; try (with_reducible rfl))
  (try simp only [Act.put, List.setIfInBounds_toArray, List.set_cons_zero, List.set_cons_succ])
  refine wpAnyH_ready (rs := [9]) (by kernel_rfl) (by simp) ?_
  refine AllReadyH.cons rfl (fun K hK => ?_) AllReadyH.nil
  go_simp
  (go_at_call 141; refine (impl_number.calls k d word (i : Int) _ HI.out).mono ?_; rintro e w2 ⟨rfl, hd2⟩; have hb2 := of_drawn hd2; have hk2 := HK1.out _ (below_step (below_drew (Below.refl _ _)) hb2); obtain ⟨k0, k1, k2, k3, k4⟩ := hk2; have r0 : w2.cell? ⟨w.heap.size, 0, none⟩ = some (.int .i64 0) := (blk_cell k4 0).trans rfl; have r1 : w2.cell? ⟨w.heap.size, 1, none⟩ = some (.int .i64 0) := (blk_cell k4 1).trans rfl; have rf0 := blk_frozen k4 0; have rf1 := blk_frozen k4 1)
  refine hK.out _ _ ?_ (fun hHeld => ?_)
  · (try dsimp only)
    (exact ⟨k0, k1, k2, k3⟩)
  clear hK K
  (try simp only [Act.put, List.setIfInBounds_toArray, List.set_cons_zero, List.set_cons_succ])
  refine wpAnyH_take (i := 10) (v := ?v9) rfl (by kernel_rfl) (by kernel_rfl) (by kernel_rfl) (fun _ _ _ h => h) (Or.inl ⟨by rfl, ?hy9⟩) (by assumption) ?rest9
  case hy9 => (intro w hSw; (try dsimp only at hSw); go_simp; try (with_reducible rfl))
  (try simp only [Act.put, List.setIfInBounds_toArray, List.set_cons_zero, List.set_cons_succ])
  refine wpAnyH_ready (rs := [11]) (by kernel_rfl) (by simp) ?_
  refine AllReadyH.cons rfl (fun K hK => ?_) AllReadyH.nil
  go_simp
  refine hK.out _ _ ?_ (fun hHeld => ?_)
  · (try dsimp only)
    (exact ⟨k0, k1, k2, k3⟩)
  clear hK K
  (try simp only [Act.put, List.setIfInBounds_toArray, List.set_cons_zero, List.set_cons_succ])
  refine wpAnyH_ready (rs := [12]) (by kernel_rfl) (by simp) ?_
  refine AllReadyH.cons rfl (fun K hK => ?_) AllReadyH.nil
  go_simp
  refine hK.out _ _ ?_ (fun hHeld => ?_)
  · (try dsimp only)
    (exact ⟨cell_far hAB (cell_far hAB k0), cell_far hAB (cell_far hAB k1), cell_far hAg (cell_far hAg k2), cell_far hAg (cell_far hAg k3)⟩)
  clear hK K
  (try simp only [Act.put, List.setIfInBounds_toArray, List.set_cons_zero, List.set_cons_succ])
  refine wpAnyH_done (by kernel_rfl) ?_ _
  refine NoPanic.normal ?_
  go_wp2
  refine bodyPost_ret (results_cell_row rfl _ _ w.heap.size 27 #[.int .i64 (rd_T27 vs (i : Int)).f0, .int .i64 (rd_T27 vs (i : Int)).f1] (0, 0) _ rfl (blk_put (cs := #[.int .i64 (rd_T27 vs (i : Int)).f0, .int .i64 0]) (blk_put (cs := #[.int .i64 0, .int .i64 0]) k4 0 _ rfl) 1 _ rfl) Try.underlying27 rfl (by kernel_rfl)) rfl ?_
  exact ⟨rfl, below_set (below_set (below_step (below_drew HB1.out) hb2) (Nat.le_refl _)) (Nat.le_refl _)⟩
end Go.Proofs.Ytcklefgkbddlhaa.Tab
