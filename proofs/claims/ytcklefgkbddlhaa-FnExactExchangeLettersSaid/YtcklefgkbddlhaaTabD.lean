/- The series of a table: what calls of series and told come to. -/
import Derived.Test.YtcklefgkbddlhaaTabC
namespace Go.Proofs.Ytcklefgkbddlhaa.Tab
open Go.RowKit Go.Proofs.Ytcklefgkbddlhaa.P Go.Proofs.YtcklefgkbddlhaaW.PrintWords Go.Proofs.YtcklefgkbddlhaaW.PrintLast Go.Proofs.YtcklefgkbddlhaaW.PrintMore
set_option linter.unusedVariables false
set_option linter.unusedSimpArgs false

/-- The terms of a table. -/
def termsOf (ws : List ByteArray) (vs : List S27) (m : Nat) : List S89 := (List.range m).flatMap fun (i : Nat) => if (rd_T27 vs (i : Int)).f0 = 0 then [] else [⟨rdOf ByteArray.empty ws (i : Int), rd_T27 vs (i : Int)⟩]
theorem infoT : (Try.prog.info? 89).map (fun i => (i.zero, i.size, i.bytes)) = some (some (.agg #[(.string ⟨#[]⟩), (.int .i64 0), (.int .i64 0)]), 3, 32) := by kernel_rfl
theorem cell_of_block {w w1 : World} {b j : Nat} (h : w1.heap[b]? = w.heap[b]?) : w1.cell? ⟨b, j, none⟩ = w.cell? ⟨b, j, none⟩ := by simp only [World.cell?, h]
theorem Tab.typed {w : World} {base B g cap : Nat} {d n : Int} {vs : List S27} {bad : Bool} (h : Tab w base B g cap d n vs bad) : ∃ cells, w.heap[g]? = some (.cells cells 27 (0, 0)) := by
  obtain ⟨inner, ho⟩ := Kd.R_own h.row
  exact own_typed ho g (by simp [Value.ownBlock])
theorem termsOf_succ (ws : List ByteArray) (vs : List S27) (i : Nat) : termsOf ws vs (i + 1) = termsOf ws vs i ++ (if (rd_T27 vs (i : Int)).f0 = 0 then [] else [⟨rdOf ByteArray.empty ws (i : Int), rd_T27 vs (i : Int)⟩]) := by
  unfold termsOf
  rw [List.range_succ, List.flatMap_append]
  simp
theorem termsOf_length (ws : List ByteArray) (vs : List S27) : ∀ m, (termsOf ws vs m).length ≤ m
  | 0 => Nat.le_refl _
  | m + 1 => by
    have := termsOf_length ws vs m
    rw [termsOf_succ, List.length_append]
    split <;> simp <;> omega
set_option maxHeartbeats 8000000 in
set_option maxRecDepth 100000 in
theorem series (k : Nat) (d n : Int) (ws : List ByteArray) (hk : impl_allWords.f k d n = some ws) (h1 : 1 ≤ ws.length) (h2 : ws.length ≤ 1000) (base B g cap : Nat) (vs : List S27) (bad : Bool) (hl : vs.length = ws.length) (w : World) (h : Tab w base B g cap d n vs bad) :
    Calls Try.prog 88 #[.pointer (some ⟨B, 0, none⟩)] w fun e w' => ∃ v, e = .returned (.agg #[.int .i64 d, .int .i64 n, v]) ∧ Kd.R k89 89 w' w.heap.size (fun _ => True) v (termsOf ws vs ws.length) ∧ Below w.heap.size w w' := by
  have HT := Aside0.mk h
  obtain ⟨x0, x1, x2, x3⟩ := h.cells
  have hlt := h.ltB
  have HN0 := World.new_ne w _ x0
  have HN1 := World.new_ne w _ x1
  have HN2 := World.new_ne w _ x2
  have HK := Aside0.mk hk
  clear h hk
  go_enter Try.func88, Try.ntmps88
  go_wp2
  go_region_held3 (fun w' => w'.cell? ⟨B, 0, none⟩ = some (.int .i64 d) ∧ w'.cell? ⟨B, 1, none⟩ = some (.int .i64 n)) (go_keep) (first | fail)
  all_goals go_wp2
  have b0 : Below w.heap.size w (((w.alloc (.cells #[.int .i64 0, .int .i64 0, .slice none 0 0] 32)).alloc (.cells #[.int .i64 d, .int .i64 n, .slice none 0 0] 32)).drew) := below_drew (below_alloc (below_alloc (Below.refl _ _) _) _)
  have HT0 := Aside0.mk (HT.out.below b0)
  have R0 := Aside0.mk (show (((w.alloc (.cells #[.int .i64 0, .int .i64 0, .slice none 0 0] 32)).alloc (.cells #[.int .i64 d, .int .i64 n, .slice none 0 0] 32)).drew).heap[w.heap.size]? = some (.cells #[.int .i64 0, .int .i64 0, .slice none 0 0] 32 (0, 0)) from (Below.block (below_alloc (Below.refl _ (w.alloc (.cells #[.int .i64 0, .int .i64 0, .slice none 0 0] 32))) _) w.heap.size (by simp)).trans (blk_new w _))
  have X0 := Aside0.mk (show (((w.alloc (.cells #[.int .i64 0, .int .i64 0, .slice none 0 0] 32)).alloc (.cells #[.int .i64 d, .int .i64 n, .slice none 0 0] 32)).drew).heap[w.heap.size + 1]? = some (.cells #[.int .i64 d, .int .i64 n, .slice none 0 0] 32 (0, 0)) from blk_new2 w _ _)
  have B0 := Aside0.mk b0
  have hs0 : (((w.alloc (.cells #[.int .i64 0, .int .i64 0, .slice none 0 0] 32)).alloc (.cells #[.int .i64 d, .int .i64 n, .slice none 0 0] 32)).drew).heap.size = w.heap.size + 2 := by simp
  clear b0
  generalize (((w.alloc (.cells #[.int .i64 0, .int .i64 0, .slice none 0 0] 32)).alloc (.cells #[.int .i64 d, .int .i64 n, .slice none 0 0] 32)).drew) = W1 at HT0 R0 X0 B0 hs0 ⊢
  clear HT x0 x1 x2 x3 HN0 HN1 HN2
  obtain ⟨x0, x1, x2, x3⟩ := HT0.out.cells
  go_region_held3 (fun w' => w'.cell? ⟨B, 0, none⟩ = some (.int .i64 d) ∧ w'.cell? ⟨B, 1, none⟩ = some (.int .i64 n)) (first | exact ⟨pw_cell_below hb2 x0, pw_cell_below hb2 x1⟩ | go_keep) (first | (go_at_call 132; refine (impl_allWords.calls k d n ws _ HK.out).mono ?_; rintro e w2 ⟨v0, rfl, hv0, hb2⟩; obtain ⟨gw, cw, rfl, hgw1, hgw2, hgw3⟩ := Kd.R_form hv0 (by omega)))
  all_goals go_wp2
  have h8 : W1.drew.heap.size = w.heap.size + 2 := hs0
  have HT2 := Aside0.mk ((HT0.out.below (below_drew (Below.refl _ _))).below hb2)
  have R2 := Aside0.mk ((hb2.block w.heap.size (by omega)).trans R0.out)
  have X2 := Aside0.mk ((hb2.block (w.heap.size + 1) (by omega)).trans X0.out)
  have W2 := Aside0.mk (Kd.R_lower hv0 (base' := w.heap.size) (by omega))
  have B2 := Aside0.mk (below_step (below_drew B0.out) hb2)
  clear hv0 hb2 hgw1 hgw2 hgw3 x0 x1 x2 x3 HT0 R0 X0 B0 hs0 h8
  go_loopw [25] (fun s25 wr => ∃ (i : Nat) (tv : Value), i ≤ ws.length ∧ s25 = .int .i64 i ∧ Aside0 (Tab wr base B g cap d n vs bad) ∧ Aside0 (wr.heap[w.heap.size]? = some (.cells #[.int .i64 0, .int .i64 0, .slice none 0 0] 32 (0, 0))) ∧ Aside0 (wr.heap[w.heap.size + 1]? = some (.cells #[.int .i64 d, .int .i64 n, tv] 32 (0, 0))) ∧ Aside0 (Kd.R k89 89 wr w.heap.size (fun _ => True) tv (termsOf ws vs i)) ∧ Aside0 (Kd.R Kd.string 9 wr w.heap.size (fun _ => True) (.slice (some ⟨gw, 0, none⟩) ws.length cw) ws) ∧ Aside0 (Below w.heap.size w wr)) (fun s25 _ => ws.length - (intOf s25).toNat)
  case atStart => exact ⟨0, .slice none 0 0, Nat.zero_le _, rfl, HT2, R2, X2, ⟨Kd.R_nil _ _ _ _ _⟩, W2, B2⟩
  case round =>
    clear HT2 R2 X2 W2 B2
    obtain ⟨i, tv, hi, rfl, HT, RB, XB, TR, WR, BB⟩ := hrel
    by_cases hlt : i < ws.length
    · have hltz : (i : Int) < (ws.length : Int) := by omega
      obtain ⟨y0, _⟩ := Kd.R_celln ByteArray.empty WR.out (i : Int) (by omega) hltz
      rw [Int.toNat_natCast] at y0
      obtain ⟨v0, v1, vf⟩ := HT.out.val (i : Int) (by omega) (by omega)
      rw [Int.toNat_natCast] at v0 v1
      have x2 := HT.out.cells.2.2.1
      have p1 : (0 ≤ (i : Int)) = True := eq_true (by omega)
      have p2 : ((i : Int) < (vs.length : Int)) = True := eq_true (by omega)
      have p3 : (i < vs.length) = True := eq_true (by omega)
      clear vf
      have XC : wr.cell? ⟨w.heap.size + 1, 2, none⟩ = some tv := (blk_cell XB.out 2).trans rfl
      have nX := Kd.R_ne TR.out XB.out (by decide)
      have nB := Kd.R_ne TR.out HT.out.head (by decide)
      obtain ⟨cg, hcg⟩ := Tab.typed HT.out
      have ng := Kd.R_ne TR.out hcg (by decide)
      have hxl := (Array.getElem?_eq_some_iff.1 XB.out).1
      have hbl := HT.out.ltB
      have hgl := HT.out.lt
      have hsm := below_size BB.out
      have htl := termsOf_length ws vs i
      have hkeep : ∀ (w1 : World), wr.drew.grownBy w1 tv.ownBlock → w1.cell? ⟨w.heap.size + 1, 2, none⟩ = some tv ∧ w1.cell? ⟨B, 2, none⟩ = some (.slice (some ⟨g, 0, none⟩) vs.length cap) ∧ w1.cell? ⟨g, i * 2, none⟩ = some (.int .i64 (rd_T27 vs (i : Int)).f0) ∧ w1.cell? ⟨g, i * 2 + 1, none⟩ = some (.int .i64 (rd_T27 vs (i : Int)).f1) := by
        intro w1 hg
        have e : ∀ k, k < wr.heap.size → some k ≠ tv.ownBlock → w1.heap[k]? = wr.heap[k]? := fun k hk hne => hg.block k hk hne
        exact ⟨(cell_of_block (e _ hxl nX)).trans XC, (cell_of_block (e _ hbl nB)).trans x2, (cell_of_block (e _ hgl ng)).trans v0, (cell_of_block (e _ hgl ng)).trans v1⟩
      have hfz : ∀ (w1 : World), wr.drew.grownBy w1 tv.ownBlock → w1.frozen? ⟨w.heap.size + 1, 2, none⟩ = false ∧ w1.cell? ⟨w.heap.size + 1, 2, none⟩ = some tv := fun w1 hg => ⟨blk_frozen ((hg.block _ hxl nX).trans XB.out) 2, (hkeep w1 hg).1⟩
      have HFZ := Aside0.mk hfz
      have hkq : ∀ (w1 : World), wr.drew.grownBy w1 tv.ownBlock → ∀ v, (w1.setCell ⟨w.heap.size + 1, 2, none⟩ v).cell? ⟨B, 2, none⟩ = some (.slice (some ⟨g, 0, none⟩) vs.length cap) ∧ (w1.setCell ⟨w.heap.size + 1, 2, none⟩ v).cell? ⟨g, i * 2, none⟩ = some (.int .i64 (rd_T27 vs (i : Int)).f0) ∧ (w1.setCell ⟨w.heap.size + 1, 2, none⟩ v).cell? ⟨g, i * 2 + 1, none⟩ = some (.int .i64 (rd_T27 vs (i : Int)).f1) := by
        intro w1 hg v
        obtain ⟨_, q1, q2, q3⟩ := hkeep w1 hg
        have n1 : B ≠ w.heap.size + 1 := fun e => by have h1 := HT.out.head; have h2 := XB.out; rw [e, h2] at h1; injection h1 with h1; injection h1 with _ h1; cases h1
        have n2 : g ≠ w.heap.size + 1 := fun e => by have h2 := XB.out; rw [e, h2] at hcg; injection hcg with h1; injection h1 with _ h1; cases h1
        exact ⟨(World.cell?_setCell_other _ _ _ _ (by simp [n1.symm])).trans q1, (World.cell?_setCell_other _ _ _ _ (by simp [n2.symm])).trans q2, (World.cell?_setCell_other _ _ _ _ (by simp [n2.symm])).trans q3⟩
      have nR := Kd.R_ne TR.out RB.out (by decide)
      have HNE := Aside0.mk (show some (w.heap.size + 1) ≠ tv.ownBlock ∧ some B ≠ tv.ownBlock ∧ some g ≠ tv.ownBlock ∧ some w.heap.size ≠ tv.ownBlock ∧ B ≠ w.heap.size + 1 ∧ g ≠ w.heap.size + 1 from ⟨nX, nB, ng, nR, (fun e => by have h1 := HT.out.head; have h2 := XB.out; rw [e, h2] at h1; injection h1 with h1; injection h1 with _ h1; cases h1), (fun e => by have h2 := XB.out; rw [e, h2] at hcg; injection hcg with h1; injection h1 with _ h1; cases h1)⟩)
      clear nR
      have HKQ := Aside0.mk hkq
      have HKP := Aside0.mk hkeep
      have hN1 := World.new_ne wr _ XC
      have hN2 := World.new_ne wr _ x2
      have hN3 := World.new_ne wr _ v0
      clear hkeep hkq hcg ng nX nB hfz
      go_wp2
      · refine wp_region_noPanic ?_
        refine wp_region_held_drew (S := (fun w' => w'.cell? ⟨B, 2, none⟩ = some (.slice (some ⟨g, 0, none⟩) vs.length cap) ∧ w'.cell? ⟨g, i * 2, none⟩ = some (.int .i64 (rd_T27 vs (i : Int)).f0) ∧ w'.cell? ⟨g, i * 2 + 1, none⟩ = some (.int .i64 (rd_T27 vs (i : Int)).f1))) (by kernel_rfl) ?_ (fun hHeld => ?_)
        · (try dsimp only)
          (first | exact (HKP.out _ hg).2 | exact HKQ.out _ hg _ | go_keep)
        refine wpAnyH_take (i := 0) (v := ?v100) rfl (by kernel_rfl) (by kernel_rfl) (by kernel_rfl) (fun _ _ _ h => h) (Or.inl ⟨by rfl, ?hy100⟩) (by assumption) ?rest100
        case hy100 => (intro w hSw; (try dsimp only at hSw); go_simp; try (with_reducible rfl))
        (try simp only [Act.put, List.setIfInBounds_toArray, List.set_cons_zero, List.set_cons_succ])
        refine wpAnyH_take (i := 2) (v := ?v202) rfl (by kernel_rfl) (by kernel_rfl) (by kernel_rfl) (fun _ _ _ h => h) (Or.inl ⟨by rfl, ?hy202⟩) (by assumption) ?rest202
        case hy202 => (intro w hSw; (try dsimp only at hSw); go_simp; try (with_reducible rfl))
        (try simp only [Act.put, List.setIfInBounds_toArray, List.set_cons_zero, List.set_cons_succ])
        refine wpAnyH_take (i := 3) (v := ?v303) rfl (by kernel_rfl) (by kernel_rfl) (by kernel_rfl) (fun _ _ _ h => h) (Or.inl ⟨by rfl, ?hy303⟩) (by assumption) ?rest303
        case hy303 => (intro w hSw; (try dsimp only at hSw); go_simp; try (with_reducible rfl))
        (try simp only [Act.put, List.setIfInBounds_toArray, List.set_cons_zero, List.set_cons_succ])
        refine wpAnyH_take (i := 4) (v := ?v404) rfl (by kernel_rfl) (by kernel_rfl) (by kernel_rfl) (fun _ _ _ h => h) (Or.inl ⟨by rfl, ?hy404⟩) (by assumption) ?rest404
        case hy404 => (intro w hSw; (try dsimp only at hSw); go_simp; try (with_reducible rfl))
        (try simp only [Act.put, List.setIfInBounds_toArray, List.set_cons_zero, List.set_cons_succ])
        refine wpAnyH_take (i := 5) (v := ?v505) rfl (by kernel_rfl) (by kernel_rfl) (by kernel_rfl) (fun _ _ _ h => h) (Or.inl ⟨by rfl, ?hy505⟩) (by assumption) ?rest505
        case hy505 => (intro w hSw; (try dsimp only at hSw); go_simp; try (with_reducible rfl))
        (try simp only [Act.put, List.setIfInBounds_toArray, List.set_cons_zero, List.set_cons_succ])
        refine wpAnyH_take (i := 6) (v := ?v606) rfl (by kernel_rfl) (by kernel_rfl) (by kernel_rfl) (fun _ _ _ h => h) (Or.inl ⟨by rfl, ?hy606⟩) (by assumption) ?rest606
        case hy606 => (intro w hSw; (try dsimp only at hSw); go_simp; try (with_reducible rfl))
        (try simp only [Act.put, List.setIfInBounds_toArray, List.set_cons_zero, List.set_cons_succ])
        refine wpAnyH_take (i := 7) (v := ?v707) rfl (by kernel_rfl) (by kernel_rfl) (by kernel_rfl) (fun _ _ _ h => h) (Or.inl ⟨by rfl, ?hy707⟩) (by assumption) ?rest707
        case hy707 => (intro w hSw; (try dsimp only at hSw); go_simp; try (with_reducible rfl))
        (try simp only [Act.put, List.setIfInBounds_toArray, List.set_cons_zero, List.set_cons_succ])
        refine wpAnyH_take (i := 8) (v := ?v808) rfl (by kernel_rfl) (by kernel_rfl) (by kernel_rfl) (fun _ _ _ h => h) (Or.inl ⟨by rfl, ?hy808⟩) (by assumption) ?rest808
        case hy808 => (intro w hSw; (try dsimp only at hSw); go_simp; try (with_reducible rfl))
        (try simp only [Act.put, List.setIfInBounds_toArray, List.set_cons_zero, List.set_cons_succ])
        refine wpAnyH_take (i := 9) (v := ?v909) rfl (by kernel_rfl) (by kernel_rfl) (by kernel_rfl) (fun _ _ _ h => h) (Or.inl ⟨by rfl, ?hy909⟩) (by assumption) ?rest909
        case hy909 => (intro w hSw; (try dsimp only at hSw); go_simp; try (with_reducible rfl))
        (try simp only [Act.put, List.setIfInBounds_toArray, List.set_cons_zero, List.set_cons_succ])
        refine wpAnyH_take (i := 10) (v := ?v1010) rfl (by kernel_rfl) (by kernel_rfl) (by kernel_rfl) (fun _ _ _ h => h) (Or.inl ⟨by rfl, ?hy1010⟩) (by assumption) ?rest1010
        case hy1010 => (intro w hSw; (try dsimp only at hSw); go_simp; try (with_reducible rfl))
        (try simp only [Act.put, List.setIfInBounds_toArray, List.set_cons_zero, List.set_cons_succ])
        refine wpAnyH_ready (rs := [1, 11]) (by kernel_rfl) (by simp) ?_
        refine AllReadyH.cons rfl (fun K hK => ?_) (AllReadyH.cons rfl (fun K hK => ?_) AllReadyH.nil)
        go_simp
        refine hK.out _ _ ?_ (fun hHeld => ?_)
        · (try dsimp only)
          (first | exact (HKP.out _ hg).2 | exact HKQ.out _ hg _ | go_keep)
        clear hK K
        (try simp only [Act.put, List.setIfInBounds_toArray, List.set_cons_zero, List.set_cons_succ])
        refine wpAnyH_ready (rs := [11]) (by kernel_rfl) (by simp) ?_
        refine AllReadyH.cons rfl (fun K hK => ?_) AllReadyH.nil
        go_simp
        refine hK.out _ _ ?_ (fun hHeld => ?_)
        · (try dsimp only)
          (first | exact (HKP.out _ hg).2 | exact HKQ.out _ hg _ | go_keep)
        clear hK K
        (try simp only [Act.put, List.setIfInBounds_toArray, List.set_cons_zero, List.set_cons_succ])
        refine wpAnyH_ready (rs := [12]) (by kernel_rfl) (by simp) ?_
        refine AllReadyH.cons rfl (fun K hK => ?_) AllReadyH.nil
        refine Kd.R_append_step k89 (w0 := w) (W := wr.drew) w.heap.size (by rfl) (.tmp 40) (.tmp 50) 30 89 (.agg #[(.string ⟨#[]⟩), (.int .i64 0), (.int .i64 0)]) 32 rfl Try.underlying30 infoT rfl (by decide) (by omega) tv (termsOf ws vs i) ⟨rdOf ByteArray.empty ws (i : Int), rd_T27 vs (i : Int)⟩ [.string (rdOf ByteArray.empty ws (i : Int)), .int .i64 (rd_T27 vs (i : Int)).f0, .int .i64 (rd_T27 vs (i : Int)).f1] (fun _ => True) (fun _ => False) rfl rfl ?aP (fun _ hk => hk.elim) ?aF ?aO ?aB ?aS ?aL ?_; (case aP => exact k89_mkM _ _ _ _); (case aF => exact (fun _ _ => trivial)); (case aO => exact Kd.R_drew TR.out); (case aB => exact below_drew BB.out); (case aS => exact hsm); (case aL => omega); intro v1 w1 ho hb hg hat; obtain ⟨hz1, hz2⟩ := HFZ.out _ hg; obtain ⟨A1, c1, rfl⟩ := Kd.R_slice ho
        refine hK.out _ _ ?_ (fun hHeld => ?_)
        · (try dsimp only)
          (first | exact (HKP.out _ hg).2 | exact HKQ.out _ hg _ | go_keep)
        clear hK K
        (try simp only [Act.put, List.setIfInBounds_toArray, List.set_cons_zero, List.set_cons_succ])
        refine wpAnyH_take (i := 13) (v := ?v1113) rfl (by kernel_rfl) (by kernel_rfl) (by kernel_rfl) (fun _ _ _ h => h) (Or.inl ⟨by rfl, ?hy1113⟩) (by assumption) ?rest1113
        case hy1113 => (intro w hSw; (try dsimp only at hSw); go_simp; try (with_reducible rfl))
        (try simp only [Act.put, List.setIfInBounds_toArray, List.set_cons_zero, List.set_cons_succ])
        refine wpAnyH_ready (rs := [14]) (by kernel_rfl) (by simp) ?_
        refine AllReadyH.cons rfl (fun K hK => ?_) AllReadyH.nil
        go_simp
        refine hK.out _ _ ?_ (fun hHeld => ?_)
        · (try dsimp only)
          (first | exact (HKP.out _ hg).2 | exact HKQ.out _ hg _ | go_keep)
        clear hK K
        (try simp only [Act.put, List.setIfInBounds_toArray, List.set_cons_zero, List.set_cons_succ])
        refine wpAnyH_done (by kernel_rfl) ?_ _
        rotate_left
        go_simp
        refine hK.out _ _ ?_ (fun hHeld => ?_)
        · (try dsimp only)
          (first | exact (HKP.out _ hg).2 | exact HKQ.out _ hg _ | go_keep)
        clear hK K
        (try simp only [Act.put, List.setIfInBounds_toArray, List.set_cons_zero, List.set_cons_succ])
        refine wpAnyH_ready (rs := [1]) (by kernel_rfl) (by simp) ?_
        refine AllReadyH.cons rfl (fun K hK => ?_) AllReadyH.nil
        go_simp
        refine hK.out _ _ ?_ (fun hHeld => ?_)
        · (try dsimp only)
          (first | exact (HKP.out _ hg).2 | exact HKQ.out _ hg _ | go_keep)
        clear hK K
        (try simp only [Act.put, List.setIfInBounds_toArray, List.set_cons_zero, List.set_cons_succ])
        refine wpAnyH_ready (rs := [12]) (by kernel_rfl) (by simp) ?_
        refine AllReadyH.cons rfl (fun K hK => ?_) AllReadyH.nil
        refine Kd.R_append_step k89 (w0 := w) (W := wr.drew) w.heap.size (by rfl) (.tmp 40) (.tmp 50) 30 89 (.agg #[(.string ⟨#[]⟩), (.int .i64 0), (.int .i64 0)]) 32 rfl Try.underlying30 infoT rfl (by decide) (by omega) tv (termsOf ws vs i) ⟨rdOf ByteArray.empty ws (i : Int), rd_T27 vs (i : Int)⟩ [.string (rdOf ByteArray.empty ws (i : Int)), .int .i64 (rd_T27 vs (i : Int)).f0, .int .i64 (rd_T27 vs (i : Int)).f1] (fun _ => True) (fun _ => False) rfl rfl ?aP2 (fun _ hk => hk.elim) ?aF2 ?aO2 ?aB2 ?aS2 ?aL2 ?_; (case aP2 => exact k89_mkM _ _ _ _); (case aF2 => exact (fun _ _ => trivial)); (case aO2 => exact Kd.R_drew TR.out); (case aB2 => exact below_drew BB.out); (case aS2 => exact hsm); (case aL2 => omega); intro v1 w1 ho hb hg hat; obtain ⟨hz1, hz2⟩ := HFZ.out _ hg; obtain ⟨A1, c1, rfl⟩ := Kd.R_slice ho
        refine hK.out _ _ ?_ (fun hHeld => ?_)
        · (try dsimp only)
          (first | exact (HKP.out _ hg).2 | exact HKQ.out _ hg _ | go_keep)
        clear hK K
        (try simp only [Act.put, List.setIfInBounds_toArray, List.set_cons_zero, List.set_cons_succ])
        refine wpAnyH_take (i := 13) (v := ?v1213) rfl (by kernel_rfl) (by kernel_rfl) (by kernel_rfl) (fun _ _ _ h => h) (Or.inl ⟨by rfl, ?hy1213⟩) (by assumption) ?rest1213
        case hy1213 => (intro w hSw; (try dsimp only at hSw); go_simp; try (with_reducible rfl))
        (try simp only [Act.put, List.setIfInBounds_toArray, List.set_cons_zero, List.set_cons_succ])
        refine wpAnyH_ready (rs := [14]) (by kernel_rfl) (by simp) ?_
        refine AllReadyH.cons rfl (fun K hK => ?_) AllReadyH.nil
        go_simp
        refine hK.out _ _ ?_ (fun hHeld => ?_)
        · (try dsimp only)
          (first | exact (HKP.out _ hg).2 | exact HKQ.out _ hg _ | go_keep)
        clear hK K
        (try simp only [Act.put, List.setIfInBounds_toArray, List.set_cons_zero, List.set_cons_succ])
        refine wpAnyH_done (by kernel_rfl) ?_ _
        all_goals (refine NoPanic.normal ?_)
        all_goals go_wp2
        all_goals
          have hz : ((rd_T27 vs (i : Int)).f0 != 0) = true := by assumption
          obtain ⟨m1, m2, m3, m4, m5, m6⟩ := HNE.out
          have hx1 := (hg.block _ hxl m1).trans XB.out
          have hrl := (Array.getElem?_eq_some_iff.1 RB.out).1
          refine ⟨⟨i + 1, _, by omega, by go_num, ⟨HT.out.move (fun k hk => ?_)⟩, ⟨(Below.heap_setCell w1 ⟨w.heap.size + 1, 2, none⟩ _ w.heap.size (by simp)).trans ((hg.block _ hrl m4).trans RB.out)⟩, ⟨blk_put hx1 2 _ rfl⟩, ⟨?_⟩, ⟨?_⟩, ⟨below_set hb (by omega)⟩⟩, by simp [intOf]; omega⟩
          · rcases hk with rfl | rfl
            · exact (Below.heap_setCell w1 ⟨w.heap.size + 1, 2, none⟩ _ _ m5).trans (hg.block _ hbl m2)
            · exact (Below.heap_setCell w1 ⟨w.heap.size + 1, 2, none⟩ _ _ m6).trans (hg.block _ hgl m3)
          · rw [termsOf_succ, if_neg (by simpa using hz)]
            have := Kd.R_set ho hx1 (by decide) 2 (.slice A1 ((termsOf ws vs i).length + 1) c1)
            simpa using this
          · exact Kd.R_set (Kd.R_over' (Kd.R_drew WR.out) (Kd.R_typed (Kd.R_drew TR.out)) (by decide) hg) hx1 (by decide) 2 _
      · rename_i hz
        refine ⟨⟨i + 1, tv, by omega, by go_num, HT, RB, XB, ⟨?_⟩, WR, BB⟩, by simp [intOf]; omega⟩
        rw [termsOf_succ, if_pos (by simpa using hz), List.append_nil]
        exact TR.out
    · obtain rfl : i = ws.length := by omega
      obtain ⟨At, ct, rfl⟩ := Kd.R_slice TR.out
      have c0 : wr.cell? ⟨w.heap.size + 1, 0, none⟩ = some (.int .i64 d) := (blk_cell XB.out 0).trans rfl
      have c1 : wr.cell? ⟨w.heap.size + 1, 1, none⟩ = some (.int .i64 n) := (blk_cell XB.out 1).trans rfl
      have c2 : wr.cell? ⟨w.heap.size + 1, 2, none⟩ = some (.slice At (termsOf ws vs ws.length).length ct) := (blk_cell XB.out 2).trans rfl
      have r0 : wr.cell? ⟨w.heap.size, 0, none⟩ = some (.int .i64 0) := (blk_cell RB.out 0).trans rfl
      have r1 : wr.cell? ⟨w.heap.size, 1, none⟩ = some (.int .i64 0) := (blk_cell RB.out 1).trans rfl
      have r2 : wr.cell? ⟨w.heap.size, 2, none⟩ = some (.slice none 0 0) := (blk_cell RB.out 2).trans rfl
      have f0 := blk_frozen RB.out 0
      have f1 := blk_frozen RB.out 1
      have f2 := blk_frozen RB.out 2
      go_wp2
      refine bodyPost_ret (results_cell_row rfl _ _ w.heap.size 32 #[.int .i64 d, .int .i64 n, .slice At (termsOf ws vs ws.length).length ct] (0, 0) _ rfl (blk_put (cs := #[.int .i64 d, .int .i64 n, .slice none 0 0]) (blk_put (cs := #[.int .i64 d, .int .i64 0, .slice none 0 0]) (blk_put (cs := #[.int .i64 0, .int .i64 0, .slice none 0 0]) RB.out 0 _ rfl) 1 _ rfl) 2 _ rfl) Try.underlying32 rfl (by kernel_rfl)) rfl ?_
      have q0 := RB.out
      have q1 := blk_put (cs' := #[.int .i64 d, .int .i64 0, .slice none 0 0]) q0 0 (.int .i64 d) rfl
      have q2 := blk_put (cs' := #[.int .i64 d, .int .i64 n, .slice none 0 0]) q1 1 (.int .i64 n) rfl
      exact ⟨_, rfl, Kd.R_set (Kd.R_set (Kd.R_set TR.out q0 (by decide) 0 _) q1 (by decide) 1 _) q2 (by decide) 2 _, below_set (below_set (below_set BB.out (Nat.le_refl _)) (Nat.le_refl _)) (Nat.le_refl _)⟩
end Go.Proofs.Ytcklefgkbddlhaa.Tab
