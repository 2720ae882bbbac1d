/- The product of two values is added at a word; the unit: what calls of addTimes and unit come to. (The drawn region is printed by a program of this session.) -/
import Derived.Test.YtcklefgkbddlhaaPx11
import Derived.Test.YtcklefgkbddlhaaPx10
import Derived.Test.YtcklefgkbddlhaaTabI
import Derived.Test.YtcklefgkbddlhaaTabH
namespace Go.Proofs.Ytcklefgkbddlhaa.Tab
open Go.RowKit Go.Proofs.Ytcklefgkbddlhaa.P Go.Proofs.YtcklefgkbddlhaaW.PrintWords Go.Proofs.YtcklefgkbddlhaaW.PrintLast Go.Proofs.YtcklefgkbddlhaaW.PrintMore
set_option linter.unusedVariables false
set_option linter.unusedSimpArgs false

set_option maxHeartbeats 16000000 in
set_option maxRecDepth 100000 in
theorem addTimes (k : Nat) (base B g cap : Nat) (d n : Int) (vs : List S27) (bad : Bool) (word : ByteArray) (i : Nat) (a0 a1 b0 b1 m0 m1 s0 s1 : Int) (m2 s2 : Bool) (hi : impl_number.f k d word = some (i : Int)) (hlt : i < vs.length)
    (hm : impl_Fraction_times.f k a0 a1 b0 b1 = some (m0, m1, m2)) (hs : impl_Fraction_plus.f k (rd_T27 vs (i : Int)).f0 (rd_T27 vs (i : Int)).f1 (sel m2 m0 0) (sel m2 m1 1) = some (s0, s1, s2)) (w : World) (h : Tab w base B g cap d n vs bad) :
    Calls Try.prog 138 #[.pointer (some ⟨B, 0, none⟩), .string word, .agg #[.int .i64 a0, .int .i64 a1], .agg #[.int .i64 b0, .int .i64 b1]] w fun e w' => e = .returned (.tuple #[]) ∧ Tab w' base B g cap d n (addV vs i s0 s1 s2) ((bad || !m2) || !s2) ∧ Touch2 w w' B g ∧ ∀ b, b ≤ B → b ≤ g → Below b w w' := by
  have HT := Aside0.mk h
  have HI := Aside0.mk hi
  have HM := Aside0.mk hm
  have HS := Aside0.mk hs
  have hB : B < w.heap.size := h.ltB
  have hg : g < w.heap.size := h.lt
  clear h hi hm hs
  have B0 := Aside0.mk (below_alloc (below_alloc (Below.refl w.heap.size w) (.cells #[.int .i64 a0, .int .i64 a1] 27)) (.cells #[.int .i64 b0, .int .i64 b1] 27))
  have X0 := blk_alloc (blk_new w (.cells #[.int .i64 a0, .int .i64 a1] 27)) (.cells #[.int .i64 b0, .int .i64 b1] 27)
  have Y0 := blk_new2 w (.cells #[.int .i64 a0, .int .i64 a1] 27) (.cells #[.int .i64 b0, .int .i64 b1] 27)
  have x0 : ((w.alloc (.cells #[.int .i64 a0, .int .i64 a1] 27)).alloc (.cells #[.int .i64 b0, .int .i64 b1] 27)).cell? ⟨w.heap.size, 0, none⟩ = some (.int .i64 a0) := (blk_cell X0 0).trans rfl
  have x1 : ((w.alloc (.cells #[.int .i64 a0, .int .i64 a1] 27)).alloc (.cells #[.int .i64 b0, .int .i64 b1] 27)).cell? ⟨w.heap.size, 1, none⟩ = some (.int .i64 a1) := (blk_cell X0 1).trans rfl
  have y0 : ((w.alloc (.cells #[.int .i64 a0, .int .i64 a1] 27)).alloc (.cells #[.int .i64 b0, .int .i64 b1] 27)).cell? ⟨w.heap.size + 1, 0, none⟩ = some (.int .i64 b0) := (blk_cell Y0 0).trans rfl
  have y1 : ((w.alloc (.cells #[.int .i64 a0, .int .i64 a1] 27)).alloc (.cells #[.int .i64 b0, .int .i64 b1] 27)).cell? ⟨w.heap.size + 1, 1, none⟩ = some (.int .i64 b1) := (blk_cell Y0 1).trans rfl
  clear X0 Y0
  go_enter Try.func138, Try.ntmps138
  go_wp2_with (first
    | (go_at_call 164; refine (impl_Fraction_times.calls k a0 a1 b0 b1 m0 m1 m2 _ HM.out).mono ?_; rintro e w1 ⟨rfl, hb⟩; have B1 := Aside0.mk (below_step B0.out hb); have HT1 := Aside0.mk (HT.out.below B1.out); clear hb)
    | (go_at_call 142; refine (check m0 m1 m2 base B g cap d n vs bad _ HT1.out).mono ?_; rintro e w2 ⟨rfl, ht, hto, hbb⟩; have HT2 := Aside0.mk ht; have TO2 := Aside0.mk hto; have BB2 := Aside0.mk hbb; clear ht hto hbb)
    | (go_at_call 95; refine (add k base B g cap d n vs _ word i _ _ s0 s1 s2 HI.out hlt HS.out _ HT2.out).mono ?_; rintro e w3 ⟨rfl, ht, hto, hbb⟩; have HT3 := Aside0.mk ht; have TO3 := Aside0.mk hto; have BB3 := Aside0.mk hbb; clear ht hto hbb))
  refine bodyPost_end (results_none rfl _ _ _) rfl ?_
  refine ⟨rfl, HT3.out, Touch2.trans (Touch2.of_below B g B1.out) (Touch2.trans (Touch2.of_touch g TO2.out) TO3.out), fun b hb1 hb2 => ?_⟩
  exact ((B1.out.mono (by omega)).trans (BB2.out b hb1)).trans (BB3.out b hb1 hb2)
/-- The unit's values. -/
def unitV (m : Nat) : List S27 := (List.replicate m ⟨0, 1⟩).set 0 ⟨1, 1⟩
theorem unitV_length (m : Nat) : (unitV m).length = m := by simp [unitV]
set_option maxHeartbeats 16000000 in
set_option maxRecDepth 100000 in
theorem unit (k : Nat) (d n : Int) (ws : List ByteArray) (hk : impl_allWords.f k d n = some ws) (h1 : 1 ≤ ws.length) (h2 : ws.length ≤ 1000) (base B g cap : Nat) (vs : List S27) (bad : Bool) (w : World) (h : Tab w base B g cap d n vs bad) :
    Calls Try.prog 86 #[.pointer (some ⟨B, 0, none⟩)] w fun e w' => ∃ B' g' cap', e = .returned (.pointer (some ⟨B', 0, none⟩)) ∧ Tab w' w.heap.size B' g' cap' d n (unitV ws.length) false ∧ Below w.heap.size w w' := by
  have HT := Aside0.mk h
  have HK := Aside0.mk hk
  clear h hk
  go_enter Try.func86, Try.ntmps86
  go_wp2_with (go_at_call 133; refine (like k d n ws HK.out h1 h2 base B g cap vs bad _ HT.out).mono ?_; rintro e w1 ⟨B', g', cap', rfl, ht1, hb1⟩; have HT1 := Aside0.mk ht1; have B1 := Aside0.mk hb1; clear ht1 hb1)
  have x2 := HT1.out.cells.2.2.1
  rw [List.length_replicate] at x2
  have hne := HT1.out.ne
  have p3 : (0 < ws.length) = True := eq_true (by omega)
  have p4 : ((0 : Int) < (ws.length : Int)) = True := eq_true (by omega)
  have hBg : w.heap.size ≤ g' := HT1.out.hg
  refine wp_region_noPanic ?_
  refine wp_region_held_drew (S := (fun w' => w'.cell? ⟨B', 2, none⟩ = some (.slice (some ⟨g', 0, none⟩) ws.length cap'))) (by kernel_rfl) ?_ (fun hHeld => ?_)
  · (try dsimp only)
    (exact pw_cell_below (below_drew (Below.refl _ _)) x2)
  refine wpAnyH_take (i := 0) (v := ?v0) rfl (by kernel_rfl) (by kernel_rfl) (by kernel_rfl) (fun _ _ _ h => h) (Or.inl ⟨by rfl, ?hy0⟩) (by assumption) ?rest0
  case hy0 => (intro w hSw; (try dsimp only at hSw); go_simp; try (with_reducible rfl))
  (try simp only [Act.put, List.setIfInBounds_toArray, List.set_cons_zero, List.set_cons_succ])
  refine wpAnyH_take (i := 1) (v := ?v1) rfl (by kernel_rfl) (by kernel_rfl) (by kernel_rfl) (fun _ _ _ h => h) (Or.inl ⟨by rfl, ?hy1⟩) (by assumption) ?rest1
  case hy1 => (intro w hSw; (try dsimp only at hSw); go_simp; try (with_reducible rfl))
  (try simp only [Act.put, List.setIfInBounds_toArray, List.set_cons_zero, List.set_cons_succ])
  refine wpAnyH_take (i := 2) (v := ?v2) rfl (by kernel_rfl) (by kernel_rfl) (by kernel_rfl) (fun _ _ _ h => h) (Or.inl ⟨by rfl, ?hy2⟩) (by assumption) ?rest2
  case hy2 => (intro w hSw; (try dsimp only at hSw); go_simp; try (with_reducible rfl))
  (try simp only [Act.put, List.setIfInBounds_toArray, List.set_cons_zero, List.set_cons_succ])
  refine wpAnyH_take (i := 3) (v := ?v3) rfl (by kernel_rfl) (by kernel_rfl) (by kernel_rfl) (fun _ _ _ h => h) (Or.inl ⟨by rfl, ?hy3⟩) (by assumption) ?rest3
  case hy3 => (intro w hSw; (try dsimp only at hSw); go_simp; try (with_reducible rfl))
  (try simp only [Act.put, List.setIfInBounds_toArray, List.set_cons_zero, List.set_cons_succ])
  refine wpAnyH_ready (rs := [4]) (by kernel_rfl) (by simp) ?_
  refine AllReadyH.cons rfl (fun K hK => ?_) AllReadyH.nil
  go_simp
  (go_at_call 134; refine (impl_whole.calls 1 1 1 _ rfl).mono ?_; rintro e w2 ⟨rfl, hb2⟩; have HT2 := Aside0.mk ((HT1.out.below (below_drew (Below.refl _ _))).below hb2); have hx2 := HT2.out.cells.2.2.1; rw [List.length_replicate] at hx2; obtain ⟨v0, v1, vf⟩ := HT2.out.val 0 (by omega) (by rw [List.length_replicate]; omega); simp only [Int.toNat_zero, Nat.zero_mul, Nat.zero_add] at v0 v1; have vf0 := vf 0; have vf1 := vf 1)
  refine hK.out _ _ ?_ (fun hHeld => ?_)
  · (try dsimp only)
    (exact hx2)
  clear hK K
  (try simp only [Act.put, List.setIfInBounds_toArray, List.set_cons_zero, List.set_cons_succ])
  refine wpAnyH_take (i := 5) (v := ?v4) rfl (by kernel_rfl) (by kernel_rfl) (by kernel_rfl) (fun _ _ _ h => h) (Or.inl ⟨by rfl, ?hy4⟩) (by assumption) ?rest4
  case hy4 => (intro w hSw; (try dsimp only at hSw); go_simp; try (with_reducible rfl))
  (try simp only [Act.put, List.setIfInBounds_toArray, List.set_cons_zero, List.set_cons_succ])
  refine wpAnyH_ready (rs := [6]) (by kernel_rfl) (by simp) ?_
  refine AllReadyH.cons rfl (fun K hK => ?_) AllReadyH.nil
  go_simp
  refine hK.out _ _ ?_ (fun hHeld => ?_)
  · (try dsimp only)
    (exact cell_far hne (cell_far hne hx2))
  clear hK K
  (try simp only [Act.put, List.setIfInBounds_toArray, List.set_cons_zero, List.set_cons_succ])
  refine wpAnyH_done (by kernel_rfl) ?_ _
  refine NoPanic.normal ?_
  go_wp2
  have hp := HT2.out.put 0 (by omega) (by rw [List.length_replicate]; omega) 1 1
  simp only [Int.toNat_zero, Nat.zero_mul, Nat.zero_add] at hp
  refine bodyPost_ret (results_tmp rfl _ _ _) rfl ?_
  exact ⟨B', g', cap', rfl, hp, below_set (below_set (below_step (below_drew B1.out) hb2) hBg) hBg⟩
end Go.Proofs.Ytcklefgkbddlhaa.Tab
