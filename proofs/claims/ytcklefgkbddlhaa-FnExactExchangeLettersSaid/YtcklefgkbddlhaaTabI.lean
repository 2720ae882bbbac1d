/- A value is added at a word: what calls of add and addTimes come to. (Printed by a program of this session, but for the laws' heads.) -/
import Derived.Test.YtcklefgkbddlhaaPx14
import Derived.Test.YtcklefgkbddlhaaPx13
import Derived.Test.YtcklefgkbddlhaaTabD
namespace Go.Proofs.Ytcklefgkbddlhaa.Tab
open Go.RowKit Go.Proofs.Ytcklefgkbddlhaa.P Go.Proofs.YtcklefgkbddlhaaW.PrintWords Go.Proofs.YtcklefgkbddlhaaW.PrintLast Go.Proofs.YtcklefgkbddlhaaW.PrintMore
set_option linter.unusedVariables false
set_option linter.unusedSimpArgs false

/-- All blocks but B and g are as they were. -/
def Touch2 (w w' : World) (B g : Nat) : Prop := w.heap.size ≤ w'.heap.size ∧ ∀ k, k < w.heap.size → k ≠ B → k ≠ g → w'.heap[k]? = w.heap[k]?
theorem Touch2.trans {w w' w'' : World} {B g : Nat} (h : Touch2 w w' B g) (h' : Touch2 w' w'' B g) : Touch2 w w'' B g := ⟨Nat.le_trans h.1 h'.1, fun k hk h1 h2 => (h'.2 k (Nat.lt_of_lt_of_le hk h.1) h1 h2).trans (h.2 k hk h1 h2)⟩
theorem Touch2.of_below {w w' : World} (B g : Nat) (h : Below w.heap.size w w') : Touch2 w w' B g := ⟨h.size, fun k hk _ _ => h.block k hk⟩
theorem Touch2.of_touch {w w' : World} {B : Nat} (g : Nat) (h : Touch w w' B) : Touch2 w w' B g := ⟨h.1, fun k hk h1 _ => h.2 k hk h1⟩
theorem Touch2.set (w : World) (B g j : Nat) (v : Value) : Touch2 w (w.setCell ⟨g, j, none⟩ v) B g := ⟨by simp, fun k _ _ hne => Below.heap_setCell w ⟨g, j, none⟩ v k hne⟩
theorem keep_far {w : World} {B g A j j' : Nat} {u v0 v1 x y : Value} (hB : B ≠ g) (hA : A ≠ g) (h : w.cell? ⟨B, 2, none⟩ = some u ∧ w.cell? ⟨A, 0, none⟩ = some v0 ∧ w.cell? ⟨A, 1, none⟩ = some v1) :
    ((w.setCell ⟨g, j, none⟩ x).setCell ⟨g, j', none⟩ y).cell? ⟨B, 2, none⟩ = some u ∧ ((w.setCell ⟨g, j, none⟩ x).setCell ⟨g, j', none⟩ y).cell? ⟨A, 0, none⟩ = some v0 ∧ ((w.setCell ⟨g, j, none⟩ x).setCell ⟨g, j', none⟩ y).cell? ⟨A, 1, none⟩ = some v1 := by
  have e : ∀ k, k ≠ g → ((w.setCell ⟨g, j, none⟩ x).setCell ⟨g, j', none⟩ y).heap[k]? = w.heap[k]? := fun k hk => (Below.heap_setCell _ ⟨g, j', none⟩ _ k hk).trans (Below.heap_setCell w ⟨g, j, none⟩ _ k hk)
  exact ⟨(cell_of_block (e B hB)).trans h.1, (cell_of_block (e A hA)).trans h.2.1, (cell_of_block (e A hA)).trans h.2.2⟩
/-- What an added value makes of a table. -/
def addV (vs : List S27) (i : Nat) (s0 s1 : Int) (fits : Bool) : List S27 := vs.set i ⟨sel fits s0 0, sel fits s1 1⟩
set_option maxHeartbeats 16000000 in
set_option maxRecDepth 100000 in
theorem add (k : Nat) (base B g cap : Nat) (d n : Int) (vs : List S27) (bad : Bool) (word : ByteArray) (i : Nat) (a0 a1 s0 s1 : Int) (fits : Bool) (hi : impl_number.f k d word = some (i : Int)) (hlt : i < vs.length)
    (hs : impl_Fraction_plus.f k (rd_T27 vs (i : Int)).f0 (rd_T27 vs (i : Int)).f1 a0 a1 = some (s0, s1, fits)) (w : World) (h : Tab w base B g cap d n vs bad) :
    Calls Try.prog 95 #[.pointer (some ⟨B, 0, none⟩), .string word, .agg #[.int .i64 a0, .int .i64 a1]] w fun e w' => e = .returned (.tuple #[]) ∧ Tab w' base B g cap d n (addV vs i s0 s1 fits) (bad || !fits) ∧ Touch2 w w' B g ∧ ∀ b, b ≤ B → b ≤ g → Below b w w' := by
  have HT := Aside0.mk h
  have HI := Aside0.mk hi
  have HS := Aside0.mk hs
  have b1 := below_alloc (Below.refl w.heap.size w) (.cells #[.int .i64 a0, .int .i64 a1] 27)
  have AB0 := Aside0.mk (blk_new w (.cells #[.int .i64 a0, .int .i64 a1] 27))
  have HB0 := Aside0.mk b1
  have hsz : (w.alloc (.cells #[.int .i64 a0, .int .i64 a1] 27)).heap.size = w.heap.size + 1 := by simp
  clear h hi hs b1
  have HT0 := Aside0.mk (HT.out.below HB0.out)
  have hBA : B < w.heap.size := HT.out.ltB
  have hgA : g < w.heap.size := HT.out.lt
  have x0 := HT0.out.cells.1
  go_enter Try.func95, Try.ntmps95
  go_wp2_with (go_at_call 141; refine (impl_number.calls k d word (i : Int) _ HI.out).mono ?_; rintro e w1 ⟨rfl, hd1⟩; have hb1 := of_drawn hd1; have HT1 := Aside0.mk (HT0.out.below hb1); have AB1 := Aside0.mk ((hb1.block w.heap.size (by omega)).trans AB0.out); have HB1 := Aside0.mk (below_step HB0.out hb1); have hAl : w.heap.size < w1.heap.size := (Array.getElem?_eq_some_iff.1 AB1.out).1; clear hb1)
  clear x0
  generalize hAe : w.heap.size = A at AB1 hBA hgA hAl ⊢
  obtain ⟨x0, x1, x2, x3⟩ := HT1.out.cells
  obtain ⟨v0, v1, vf⟩ := HT1.out.val (i : Int) (by omega) (by omega)
  rw [Int.toNat_natCast] at v0 v1
  have r0 : w1.cell? ⟨A, 0, none⟩ = some (.int .i64 a0) := (blk_cell AB1.out 0).trans rfl
  have r1 : w1.cell? ⟨A, 1, none⟩ = some (.int .i64 a1) := (blk_cell AB1.out 1).trans rfl
  have p1 : (0 ≤ (i : Int)) = True := eq_true (by omega)
  have p2 : ((i : Int) < (vs.length : Int)) = True := eq_true (by omega)
  have p3 : (i < vs.length) = True := eq_true hlt
  have hK1 : ∀ W7 : World, Below w1.heap.size w1 W7 → W7.cell? ⟨B, 2, none⟩ = some (.slice (some ⟨g, 0, none⟩) vs.length cap) ∧ W7.cell? ⟨A, 0, none⟩ = some (.int .i64 a0) ∧ W7.cell? ⟨A, 1, none⟩ = some (.int .i64 a1) := fun W7 hb => ⟨pw_cell_below hb x2, pw_cell_below hb r0, pw_cell_below hb r1⟩
  have HK1 := Aside0.mk hK1
  clear hK1 x0 x1 x3 vf
  refine wp_region_noPanic ?_
  refine wp_region_held_drew (S := (fun w' => w'.cell? ⟨B, 2, none⟩ = some (.slice (some ⟨g, 0, none⟩) vs.length cap) ∧ w'.cell? ⟨A, 0, none⟩ = some (.int .i64 a0) ∧ w'.cell? ⟨A, 1, none⟩ = some (.int .i64 a1))) (by kernel_rfl) ?_ (fun hHeld => ?_)
  · (try dsimp only)
    (exact HK1.out _ (below_drew (Below.refl _ _)))
  refine wpAnyH_take (i := 0) (v := ?v0) rfl (by kernel_rfl) (by kernel_rfl) (by kernel_rfl) (fun _ _ _ h => h) (Or.inl ⟨by rfl, ?hy0⟩) (by assumption) ?rest0
  case hy0 => (intro w hSw; (try dsimp only at hSw); go_simp; try (with_reducible rfl))
  (try simp only [Act.put, List.setIfInBounds_toArray, List.set_cons_zero, List.set_cons_succ])
  refine wpAnyH_take (i := 1) (v := ?v1) rfl (by kernel_rfl) (by kernel_rfl) (by kernel_rfl) (fun _ _ _ h => h) (Or.inl ⟨by rfl, ?hy1⟩) (by assumption) ?rest1
  case hy1 => (intro w hSw; (try dsimp only at hSw); go_simp; try (with_reducible rfl))
  (try simp only [Act.put, List.setIfInBounds_toArray, List.set_cons_zero, List.set_cons_succ])
  refine wpAnyH_take (i := 2) (v := ?v2) rfl (by kernel_rfl) (by kernel_rfl) (by kernel_rfl) (fun _ _ _ h => h) (Or.inl ⟨by rfl, ?hy2⟩) (by assumption) ?rest2
  case hy2 => (intro w hSw; (try dsimp only at hSw); go_simp; try (with_reducible rfl))
  (try simp only [Act.put, List.setIfInBounds_toArray, List.set_cons_zero, List.set_cons_succ])
  refine wpAnyH_take (i := 3) (v := ?v3) rfl (by kernel_rfl) (by kernel_rfl) (by kernel_rfl) (fun _ _ _ h => h) (Or.inl ⟨by rfl, ?hy3⟩) (by assumption) ?rest3
  case hy3 => (intro w hSw; (try dsimp only at hSw); go_simp; try (with_reducible rfl))
  (try simp only [Act.put, List.setIfInBounds_toArray, List.set_cons_zero, List.set_cons_succ])
  refine wpAnyH_take (i := 4) (v := ?v4) rfl (by kernel_rfl) (by kernel_rfl) (by kernel_rfl) (fun _ _ _ h => h) (Or.inl ⟨by rfl, ?hy4⟩) (by assumption) ?rest4
  case hy4 => (intro w hSw; (try dsimp only at hSw); go_simp; try (with_reducible rfl))
  (try simp only [Act.put, List.setIfInBounds_toArray, List.set_cons_zero, List.set_cons_succ])
  refine wpAnyH_take (i := 5) (v := ?v5) rfl (by kernel_rfl) (by kernel_rfl) (by kernel_rfl) (fun _ _ _ h => h) (Or.inl ⟨by rfl, ?hy5⟩) (by assumption) ?rest5
  case hy5 => (intro w hSw; (try dsimp only at hSw); go_simp; try (with_reducible rfl))
  (try simp only [Act.put, List.setIfInBounds_toArray, List.set_cons_zero, List.set_cons_succ])
  refine wpAnyH_take (i := 6) (v := ?v6) rfl (by kernel_rfl) (by kernel_rfl) (by kernel_rfl) (fun _ _ _ h => h) (Or.inl ⟨by rfl, ?hy6⟩) (by assumption) ?rest6
  case hy6 => (intro w hSw; (try dsimp only at hSw); go_simp; try (with_reducible rfl))
  (try simp only [Act.put, List.setIfInBounds_toArray, List.set_cons_zero, List.set_cons_succ])
  refine wpAnyH_take (i := 7) (v := ?v7) rfl (by kernel_rfl) (by kernel_rfl) (by kernel_rfl) (fun _ _ _ h => h) (Or.inl ⟨by rfl, ?hy7⟩) (by assumption) ?rest7
  case hy7 => (intro w hSw; (try dsimp only at hSw); go_simp; try (with_reducible rfl))
  (try simp only [Act.put, List.setIfInBounds_toArray, List.set_cons_zero, List.set_cons_succ])
  refine wpAnyH_take (i := 8) (v := ?v8) rfl (by kernel_rfl) (by kernel_rfl) (by kernel_rfl) (fun _ _ _ h => h) (Or.inl ⟨by rfl, ?hy8⟩) (by assumption) ?rest8
  case hy8 => (intro w hSw; (try dsimp only at hSw); go_simp; try (with_reducible rfl))
  (try simp only [Act.put, List.setIfInBounds_toArray, List.set_cons_zero, List.set_cons_succ])
  refine wpAnyH_take (i := 9) (v := ?v9) rfl (by kernel_rfl) (by kernel_rfl) (by kernel_rfl) (fun _ _ _ h => h) (Or.inl ⟨by rfl, ?hy9⟩) (by assumption) ?rest9
  case hy9 => (intro w hSw; (try dsimp only at hSw); go_simp; try (with_reducible rfl))
  (try simp only [Act.put, List.setIfInBounds_toArray, List.set_cons_zero, List.set_cons_succ])
  refine wpAnyH_take (i := 10) (v := ?v10) rfl (by kernel_rfl) (by kernel_rfl) (by kernel_rfl) (fun _ _ _ h => h) (Or.inl ⟨by rfl, ?hy10⟩) (by assumption) ?rest10
  case hy10 => (intro w hSw; (try dsimp only at hSw); go_simp; try (with_reducible rfl))
  (try simp only [Act.put, List.setIfInBounds_toArray, List.set_cons_zero, List.set_cons_succ])
  refine wpAnyH_take (i := 11) (v := ?v11) rfl (by kernel_rfl) (by kernel_rfl) (by kernel_rfl) (fun _ _ _ h => h) (Or.inl ⟨by rfl, ?hy11⟩) (by assumption) ?rest11
  case hy11 => (intro w hSw; (try dsimp only at hSw); go_simp; try (with_reducible rfl))
  (try simp only [Act.put, List.setIfInBounds_toArray, List.set_cons_zero, List.set_cons_succ])
  refine wpAnyH_take (i := 13) (v := ?v12) rfl (by kernel_rfl) (by kernel_rfl) (by kernel_rfl) (fun _ _ _ h => h) (Or.inl ⟨by rfl, ?hy12⟩) (by assumption) ?rest12
  case hy12 => (intro w hSw; (try dsimp only at hSw); go_simp; try (with_reducible rfl))
  (try simp only [Act.put, List.setIfInBounds_toArray, List.set_cons_zero, List.set_cons_succ])
  refine wpAnyH_ready (rs := [12]) (by kernel_rfl) (by simp) ?_
  refine AllReadyH.cons rfl (fun K hK => ?_) AllReadyH.nil
  go_simp
  refine hK.out _ _ ?_ (fun hHeld => ?_)
  · (try dsimp only)
    (exact HK1.out _ (below_drew (Below.refl _ _)))
  clear hK K
  (try simp only [Act.put, List.setIfInBounds_toArray, List.set_cons_zero, List.set_cons_succ])
  refine wpAnyH_ready (rs := [14]) (by kernel_rfl) (by simp) ?_
  refine AllReadyH.cons rfl (fun K hK => ?_) AllReadyH.nil
  go_simp
  (go_at_call 115; refine (impl_Fraction_plus.calls k _ _ a0 a1 s0 s1 fits _ HS.out).mono ?_; rintro e w7 ⟨rfl, hb7⟩)
  refine hK.out _ _ ?_ (fun hHeld => ?_)
  · (try dsimp only)
    (exact HK1.out _ (below_step (below_drew (Below.refl _ _)) hb7))
  clear hK K
  (try simp only [Act.put, List.setIfInBounds_toArray, List.set_cons_zero, List.set_cons_succ])
  refine wpAnyH_take (i := 15) (v := ?v13) rfl (by kernel_rfl) (by kernel_rfl) (by kernel_rfl) (fun _ _ _ h => h) (Or.inl ⟨by rfl, ?hy13⟩) (by assumption) ?rest13
  case hy13 => (intro w hSw; (try dsimp only at hSw); go_simp; try (with_reducible rfl))
  (try simp only [Act.put, List.setIfInBounds_toArray, List.set_cons_zero, List.set_cons_succ])
  refine wpAnyH_take (i := 16) (v := ?v14) rfl (by kernel_rfl) (by kernel_rfl) (by kernel_rfl) (fun _ _ _ h => h) (Or.inl ⟨by rfl, ?hy14⟩) (by assumption) ?rest14
  case hy14 => (intro w hSw; (try dsimp only at hSw); go_simp; try (with_reducible rfl))
  (try simp only [Act.put, List.setIfInBounds_toArray, List.set_cons_zero, List.set_cons_succ])
  refine wpAnyH_ready (rs := [17]) (by kernel_rfl) (by simp) ?_
  refine AllReadyH.cons rfl (fun K hK => ?_) AllReadyH.nil
  go_simp
  (go_at_call 142; refine (check s0 s1 fits base B g cap d n _ _ _ ((HT1.out.below (below_drew (Below.refl _ _))).below hb7)).mono ?_; rintro e w8 ⟨rfl, ht8, hto8, hbb8⟩; have n7 := HK1.out _ (below_step (below_drew (Below.refl _ _)) hb7); have q2 := ht8.cells.2.2.1; have hA7 : A < w7.heap.size := Nat.lt_of_lt_of_le hAl hb7.size; have eA := hto8.2 A hA7 (Nat.ne_of_gt hBA); have hq8 : w8.cell? ⟨B, 2, none⟩ = some (.slice (some ⟨g, 0, none⟩) vs.length cap) ∧ w8.cell? ⟨A, 0, none⟩ = some (.int .i64 a0) ∧ w8.cell? ⟨A, 1, none⟩ = some (.int .i64 a1) := ⟨q2, (cell_of_block eA).trans n7.2.1, (cell_of_block eA).trans n7.2.2⟩; obtain ⟨gv0, gv1, gvf⟩ := ht8.val (i : Int) (by omega) (by omega); rw [Int.toNat_natCast] at gv0 gv1; have gf0 := gvf (i * 2); have gf1 := gvf (i * 2 + 1); have hq9 := keep_far (x := .int .i64 (sel fits s0 0)) (y := .int .i64 (sel fits s1 1)) (j := i * 2) (j' := i * 2 + 1) ht8.ne (Nat.ne_of_gt hgA) hq8; clear n7 q2 eA gvf)
  refine hK.out _ _ ?_ (fun hHeld => ?_)
  · (try dsimp only)
    (exact hq8)
  clear hK K
  (try simp only [Act.put, List.setIfInBounds_toArray, List.set_cons_zero, List.set_cons_succ])
  refine wpAnyH_take (i := 18) (v := ?v15) rfl (by kernel_rfl) (by kernel_rfl) (by kernel_rfl) (fun _ _ _ h => h) (Or.inl ⟨by rfl, ?hy15⟩) (by assumption) ?rest15
  case hy15 => (intro w hSw; (try dsimp only at hSw); go_simp; try (with_reducible rfl))
  (try simp only [Act.put, List.setIfInBounds_toArray, List.set_cons_zero, List.set_cons_succ])
  refine wpAnyH_ready (rs := [19]) (by kernel_rfl) (by simp) ?_
  refine AllReadyH.cons rfl (fun K hK => ?_) AllReadyH.nil
  go_simp
  refine hK.out _ _ ?_ (fun hHeld => ?_)
  · (try dsimp only)
    (exact hq9)
  clear hK K
  (try simp only [Act.put, List.setIfInBounds_toArray, List.set_cons_zero, List.set_cons_succ])
  refine wpAnyH_done (by kernel_rfl) ?_ _
  refine NoPanic.normal ?_
  go_wp2
  refine bodyPost_end (results_none rfl _ _ _) rfl ?_
  have hp := ht8.put (i : Int) (by omega) (by omega) (sel fits s0 0) (sel fits s1 1)
  rw [Int.toNat_natCast] at hp
  refine ⟨rfl, hp, ?_, fun b hb hg => ?_⟩
  · refine Touch2.trans (Touch2.of_below B g HB1.out) (Touch2.trans (Touch2.of_below B g (below_step (below_drew (Below.refl _ _)) hb7)) (Touch2.trans (Touch2.of_touch g hto8) (Touch2.trans (Touch2.set _ B g _ _) (Touch2.set _ B g _ _))))
  · have e1 : Below b w w1 := HB1.out.mono (by omega)
    have e2 : Below b w1 w7 := (below_step (below_drew (Below.refl _ _)) hb7).mono (by omega)
    exact (((e1.trans e2).trans (hbb8 b hb)).setCell (p := ⟨g, i * 2, none⟩) hg _).setCell (p := ⟨g, i * 2 + 1, none⟩) hg _
end Go.Proofs.Ytcklefgkbddlhaa.Tab
