/- Plain lemmas and contracts of this session, of which the parts' own heads tell. -/
import Derived.Test.YtcklefgkbddlhaaTabX
import Derived.Test.YtcklefgkbddlhaaPx16
/- The series of a table: what calls of series and told come to. -/
namespace Go.Proofs.Ytcklefgkbddlhaa.Tab
open Go.RowKit Go.Proofs.Ytcklefgkbddlhaa.P Go.Proofs.YtcklefgkbddlhaaW.PrintWords Go.Proofs.YtcklefgkbddlhaaW.PrintLast Go.Proofs.YtcklefgkbddlhaaW.PrintMore
set_option linter.unusedVariables false
set_option linter.unusedSimpArgs false

/-- The terms of a table. -/
def termsOf (ws : List ByteArray) (vs : List S27) (m : Nat) : List S89 := (List.range m).flatMap fun (i : Nat) => if (rd_T27 vs (i : Int)).f0 = 0 then [] else [⟨rdOf ByteArray.empty ws (i : Int), rd_T27 vs (i : Int)⟩]
theorem infoT : (Try.prog.info? 89).map (fun i => (i.zero, i.size, i.bytes)) = some (some (.agg #[(.string ⟨#[]⟩), (.int .i64 0), (.int .i64 0)]), 3, 32) := by kernel_rfl
theorem cell_of_block {w w1 : World} {b j : Nat} (h : w1.heap[b]? = w.heap[b]?) : w1.cell? ⟨b, j, none⟩ = w.cell? ⟨b, j, none⟩ := by simp only [World.cell?, h]
theorem Tab.typed {w : World} {base B g cap : Nat} {d n : Int} {vs : List S27} {bad : Bool} (h : Tab w base B g cap d n vs bad) : ∃ cells, w.heap[g]? = some (.cells cells 27 (0, 0)) := by
  obtain ⟨inner, ho⟩ := Kd.R_own h.row
  exact own_typed ho g (by simp [Value.ownBlock])
theorem termsOf_succ (ws : List ByteArray) (vs : List S27) (i : Nat) : termsOf ws vs (i + 1) = termsOf ws vs i ++ (if (rd_T27 vs (i : Int)).f0 = 0 then [] else [⟨rdOf ByteArray.empty ws (i : Int), rd_T27 vs (i : Int)⟩]) := by
  unfold termsOf
  rw [List.range_succ, List.flatMap_append]
  simp
theorem termsOf_length (ws : List ByteArray) (vs : List S27) : ∀ m, (termsOf ws vs m).length ≤ m
  | 0 => Nat.le_refl _
  | m + 1 => by
    have := termsOf_length ws vs m
    rw [termsOf_succ, List.length_append]
    split <;> simp <;> omega
set_option maxHeartbeats 8000000 in
set_option maxRecDepth 100000 in
theorem series (k : Nat) (d n : Int) (ws : List ByteArray) (hk : impl_allWords.f k d n = some ws) (h1 : 1 ≤ ws.length) (h2 : ws.length ≤ 1000) (base B g cap : Nat) (vs : List S27) (bad : Bool) (hl : vs.length = ws.length) (w : World) (h : Tab w base B g cap d n vs bad) :
    Calls Try.prog 88 #[.pointer (some ⟨B, 0, none⟩)] w fun e w' => ∃ v, e = .returned (.agg #[.int .i64 d, .int .i64 n, v]) ∧ Kd.R k89 89 w' w.heap.size (fun _ => True) v (termsOf ws vs ws.length) ∧ Below w.heap.size w w' := by
  have HT := Aside0.mk h
  obtain ⟨x0, x1, x2, x3⟩ := h.cells
  have hlt := h.ltB
  have HN0 := World.new_ne w _ x0
  have HN1 := World.new_ne w _ x1
  have HN2 := World.new_ne w _ x2
  have HK := Aside0.mk hk
  clear h hk
  go_enter Try.func88, Try.ntmps88
  go_wp2
  go_region_held3 (fun w' => w'.cell? ⟨B, 0, none⟩ = some (.int .i64 d) ∧ w'.cell? ⟨B, 1, none⟩ = some (.int .i64 n)) (go_keep) (first | fail)
  all_goals go_wp2
  have b0 : Below w.heap.size w (((w.alloc (.cells #[.int .i64 0, .int .i64 0, .slice none 0 0] 32)).alloc (.cells #[.int .i64 d, .int .i64 n, .slice none 0 0] 32)).drew) := below_drew (below_alloc (below_alloc (Below.refl _ _) _) _)
  have HT0 := Aside0.mk (HT.out.below b0)
  have R0 := Aside0.mk (show (((w.alloc (.cells #[.int .i64 0, .int .i64 0, .slice none 0 0] 32)).alloc (.cells #[.int .i64 d, .int .i64 n, .slice none 0 0] 32)).drew).heap[w.heap.size]? = some (.cells #[.int .i64 0, .int .i64 0, .slice none 0 0] 32 (0, 0)) from (Below.block (below_alloc (Below.refl _ (w.alloc (.cells #[.int .i64 0, .int .i64 0, .slice none 0 0] 32))) _) w.heap.size (by simp)).trans (blk_new w _))
  have X0 := Aside0.mk (show (((w.alloc (.cells #[.int .i64 0, .int .i64 0, .slice none 0 0] 32)).alloc (.cells #[.int .i64 d, .int .i64 n, .slice none 0 0] 32)).drew).heap[w.heap.size + 1]? = some (.cells #[.int .i64 d, .int .i64 n, .slice none 0 0] 32 (0, 0)) from blk_new2 w _ _)
  have B0 := Aside0.mk b0
  have hs0 : (((w.alloc (.cells #[.int .i64 0, .int .i64 0, .slice none 0 0] 32)).alloc (.cells #[.int .i64 d, .int .i64 n, .slice none 0 0] 32)).drew).heap.size = w.heap.size + 2 := by simp
  clear b0
  generalize (((w.alloc (.cells #[.int .i64 0, .int .i64 0, .slice none 0 0] 32)).alloc (.cells #[.int .i64 d, .int .i64 n, .slice none 0 0] 32)).drew) = W1 at HT0 R0 X0 B0 hs0 ⊢
  clear HT x0 x1 x2 x3 HN0 HN1 HN2
  obtain ⟨x0, x1, x2, x3⟩ := HT0.out.cells
  go_region_held3 (fun w' => w'.cell? ⟨B, 0, none⟩ = some (.int .i64 d) ∧ w'.cell? ⟨B, 1, none⟩ = some (.int .i64 n)) (first | exact ⟨pw_cell_below hb2 x0, pw_cell_below hb2 x1⟩ | go_keep) (first | (go_at_call 132; refine (impl_allWords.calls k d n ws _ HK.out).mono ?_; rintro e w2 ⟨v0, rfl, hv0, hb2⟩; obtain ⟨gw, cw, rfl, hgw1, hgw2, hgw3⟩ := Kd.R_form hv0 (by omega)))
  all_goals go_wp2
  have h8 : W1.drew.heap.size = w.heap.size + 2 := hs0
  have HT2 := Aside0.mk ((HT0.out.below (below_drew (Below.refl _ _))).below hb2)
  have R2 := Aside0.mk ((hb2.block w.heap.size (by omega)).trans R0.out)
  have X2 := Aside0.mk ((hb2.block (w.heap.size + 1) (by omega)).trans X0.out)
  have W2 := Aside0.mk (Kd.R_lower hv0 (base' := w.heap.size) (by omega))
  have B2 := Aside0.mk (below_step (below_drew B0.out) hb2)
  clear hv0 hb2 hgw1 hgw2 hgw3 x0 x1 x2 x3 HT0 R0 X0 B0 hs0 h8
  go_loopw [25] (fun s25 wr => ∃ (i : Nat) (tv : Value), i ≤ ws.length ∧ s25 = .int .i64 i ∧ Aside0 (Tab wr base B g cap d n vs bad) ∧ Aside0 (wr.heap[w.heap.size]? = some (.cells #[.int .i64 0, .int .i64 0, .slice none 0 0] 32 (0, 0))) ∧ Aside0 (wr.heap[w.heap.size + 1]? = some (.cells #[.int .i64 d, .int .i64 n, tv] 32 (0, 0))) ∧ Aside0 (Kd.R k89 89 wr w.heap.size (fun _ => True) tv (termsOf ws vs i)) ∧ Aside0 (Kd.R Kd.string 9 wr w.heap.size (fun _ => True) (.slice (some ⟨gw, 0, none⟩) ws.length cw) ws) ∧ Aside0 (Below w.heap.size w wr)) (fun s25 _ => ws.length - (intOf s25).toNat)
  case atStart => exact ⟨0, .slice none 0 0, Nat.zero_le _, rfl, HT2, R2, X2, ⟨Kd.R_nil _ _ _ _ _⟩, W2, B2⟩
  case round =>
    clear HT2 R2 X2 W2 B2
    obtain ⟨i, tv, hi, rfl, HT, RB, XB, TR, WR, BB⟩ := hrel
    by_cases hlt : i < ws.length
    · have hltz : (i : Int) < (ws.length : Int) := by omega
      obtain ⟨y0, _⟩ := Kd.R_celln ByteArray.empty WR.out (i : Int) (by omega) hltz
      rw [Int.toNat_natCast] at y0
      obtain ⟨v0, v1, vf⟩ := HT.out.val (i : Int) (by omega) (by omega)
      rw [Int.toNat_natCast] at v0 v1
      have x2 := HT.out.cells.2.2.1
      have p1 : (0 ≤ (i : Int)) = True := eq_true (by omega)
      have p2 : ((i : Int) < (vs.length : Int)) = True := eq_true (by omega)
      have p3 : (i < vs.length) = True := eq_true (by omega)
      clear vf
      have XC : wr.cell? ⟨w.heap.size + 1, 2, none⟩ = some tv := (blk_cell XB.out 2).trans rfl
      have nX := Kd.R_ne TR.out XB.out (by decide)
      have nB := Kd.R_ne TR.out HT.out.head (by decide)
      obtain ⟨cg, hcg⟩ := Tab.typed HT.out
      have ng := Kd.R_ne TR.out hcg (by decide)
      have hxl := (Array.getElem?_eq_some_iff.1 XB.out).1
      have hbl := HT.out.ltB
      have hgl := HT.out.lt
      have hsm := below_size BB.out
      have htl := termsOf_length ws vs i
      have hkeep : ∀ (w1 : World), wr.drew.grownBy w1 tv.ownBlock → w1.cell? ⟨w.heap.size + 1, 2, none⟩ = some tv ∧ w1.cell? ⟨B, 2, none⟩ = some (.slice (some ⟨g, 0, none⟩) vs.length cap) ∧ w1.cell? ⟨g, i * 2, none⟩ = some (.int .i64 (rd_T27 vs (i : Int)).f0) ∧ w1.cell? ⟨g, i * 2 + 1, none⟩ = some (.int .i64 (rd_T27 vs (i : Int)).f1) := by
        intro w1 hg
        have e : ∀ k, k < wr.heap.size → some k ≠ tv.ownBlock → w1.heap[k]? = wr.heap[k]? := fun k hk hne => hg.block k hk hne
        exact ⟨(cell_of_block (e _ hxl nX)).trans XC, (cell_of_block (e _ hbl nB)).trans x2, (cell_of_block (e _ hgl ng)).trans v0, (cell_of_block (e _ hgl ng)).trans v1⟩
      have hfz : ∀ (w1 : World), wr.drew.grownBy w1 tv.ownBlock → w1.frozen? ⟨w.heap.size + 1, 2, none⟩ = false ∧ w1.cell? ⟨w.heap.size + 1, 2, none⟩ = some tv := fun w1 hg => ⟨blk_frozen ((hg.block _ hxl nX).trans XB.out) 2, (hkeep w1 hg).1⟩
      have HFZ := Aside0.mk hfz
      have hkq : ∀ (w1 : World), wr.drew.grownBy w1 tv.ownBlock → ∀ v, (w1.setCell ⟨w.heap.size + 1, 2, none⟩ v).cell? ⟨B, 2, none⟩ = some (.slice (some ⟨g, 0, none⟩) vs.length cap) ∧ (w1.setCell ⟨w.heap.size + 1, 2, none⟩ v).cell? ⟨g, i * 2, none⟩ = some (.int .i64 (rd_T27 vs (i : Int)).f0) ∧ (w1.setCell ⟨w.heap.size + 1, 2, none⟩ v).cell? ⟨g, i * 2 + 1, none⟩ = some (.int .i64 (rd_T27 vs (i : Int)).f1) := by
        intro w1 hg v
        obtain ⟨_, q1, q2, q3⟩ := hkeep w1 hg
        have n1 : B ≠ w.heap.size + 1 := fun e => by have h1 := HT.out.head; have h2 := XB.out; rw [e, h2] at h1; injection h1 with h1; injection h1 with _ h1; cases h1
        have n2 : g ≠ w.heap.size + 1 := fun e => by have h2 := XB.out; rw [e, h2] at hcg; injection hcg with h1; injection h1 with _ h1; cases h1
        exact ⟨(World.cell?_setCell_other _ _ _ _ (by simp [n1.symm])).trans q1, (World.cell?_setCell_other _ _ _ _ (by simp [n2.symm])).trans q2, (World.cell?_setCell_other _ _ _ _ (by simp [n2.symm])).trans q3⟩
      have nR := Kd.R_ne TR.out RB.out (by decide)
      have HNE := Aside0.mk (show some (w.heap.size + 1) ≠ tv.ownBlock ∧ some B ≠ tv.ownBlock ∧ some g ≠ tv.ownBlock ∧ some w.heap.size ≠ tv.ownBlock ∧ B ≠ w.heap.size + 1 ∧ g ≠ w.heap.size + 1 from ⟨nX, nB, ng, nR, (fun e => by have h1 := HT.out.head; have h2 := XB.out; rw [e, h2] at h1; injection h1 with h1; injection h1 with _ h1; cases h1), (fun e => by have h2 := XB.out; rw [e, h2] at hcg; injection hcg with h1; injection h1 with _ h1; cases h1)⟩)
      clear nR
      have HKQ := Aside0.mk hkq
      have HKP := Aside0.mk hkeep
      have hN1 := World.new_ne wr _ XC
      have hN2 := World.new_ne wr _ x2
      have hN3 := World.new_ne wr _ v0
      clear hkeep hkq hcg ng nX nB hfz
      go_wp2
      · refine wp_region_noPanic ?_
        refine wp_region_held_drew (S := (fun w' => w'.cell? ⟨B, 2, none⟩ = some (.slice (some ⟨g, 0, none⟩) vs.length cap) ∧ w'.cell? ⟨g, i * 2, none⟩ = some (.int .i64 (rd_T27 vs (i : Int)).f0) ∧ w'.cell? ⟨g, i * 2 + 1, none⟩ = some (.int .i64 (rd_T27 vs (i : Int)).f1))) (by kernel_rfl) ?_ (fun hHeld => ?_)
        · (try dsimp only)
          (first | exact (HKP.out _ hg).2 | exact HKQ.out _ hg _ | go_keep)
        refine wpAnyH_take (i := 0) (v := ?v100) rfl (by kernel_rfl) (by kernel_rfl) (by kernel_rfl) (fun _ _ _ h => h) (Or.inl ⟨by rfl, ?hy100⟩) (by assumption) ?rest100
        case hy100 => (intro w hSw; (try dsimp only at hSw); go_simp; try (with_reducible rfl))
        (try simp only [Act.put, List.setIfInBounds_toArray, List.set_cons_zero, List.set_cons_succ])
        refine wpAnyH_take (i := 2) (v := ?v202) rfl (by kernel_rfl) (by kernel_rfl) (by kernel_rfl) (fun _ _ _ h => h) (Or.inl ⟨by rfl, ?hy202⟩) (by assumption) ?rest202
        case hy202 => (intro w hSw; (try dsimp only at hSw); go_simp; try (with_reducible rfl))
        (try simp only [Act.put, List.setIfInBounds_toArray, List.set_cons_zero, List.set_cons_succ])
        refine wpAnyH_take (i := 3) (v := ?v303) rfl (by kernel_rfl) (by kernel_rfl) (by kernel_rfl) (fun _ _ _ h => h) (Or.inl ⟨by rfl, ?hy303⟩) (by assumption) ?rest303
        case hy303 => (intro w hSw; (try dsimp only at hSw); go_simp; try (with_reducible rfl))
        (try simp only [Act.put, List.setIfInBounds_toArray, List.set_cons_zero, List.set_cons_succ])
        refine wpAnyH_take (i := 4) (v := ?v404) rfl (by kernel_rfl) (by kernel_rfl) (by kernel_rfl) (fun _ _ _ h => h) (Or.inl ⟨by rfl, ?hy404⟩) (by assumption) ?rest404
        case hy404 => (intro w hSw; (try dsimp only at hSw); go_simp; try (with_reducible rfl))
        (try simp only [Act.put, List.setIfInBounds_toArray, List.set_cons_zero, List.set_cons_succ])
        refine wpAnyH_take (i := 5) (v := ?v505) rfl (by kernel_rfl) (by kernel_rfl) (by kernel_rfl) (fun _ _ _ h => h) (Or.inl ⟨by rfl, ?hy505⟩) (by assumption) ?rest505
        case hy505 => (intro w hSw; (try dsimp only at hSw); go_simp; try (with_reducible rfl))
        (try simp only [Act.put, List.setIfInBounds_toArray, List.set_cons_zero, List.set_cons_succ])
        refine wpAnyH_take (i := 6) (v := ?v606) rfl (by kernel_rfl) (by kernel_rfl) (by kernel_rfl) (fun _ _ _ h => h) (Or.inl ⟨by rfl, ?hy606⟩) (by assumption) ?rest606
        case hy606 => (intro w hSw; (try dsimp only at hSw); go_simp; try (with_reducible rfl))
        (try simp only [Act.put, List.setIfInBounds_toArray, List.set_cons_zero, List.set_cons_succ])
        refine wpAnyH_take (i := 7) (v := ?v707) rfl (by kernel_rfl) (by kernel_rfl) (by kernel_rfl) (fun _ _ _ h => h) (Or.inl ⟨by rfl, ?hy707⟩) (by assumption) ?rest707
        case hy707 => (intro w hSw; (try dsimp only at hSw); go_simp; try (with_reducible rfl))
        (try simp only [Act.put, List.setIfInBounds_toArray, List.set_cons_zero, List.set_cons_succ])
        refine wpAnyH_take (i := 8) (v := ?v808) rfl (by kernel_rfl) (by kernel_rfl) (by kernel_rfl) (fun _ _ _ h => h) (Or.inl ⟨by rfl, ?hy808⟩) (by assumption) ?rest808
        case hy808 => (intro w hSw; (try dsimp only at hSw); go_simp; try (with_reducible rfl))
        (try simp only [Act.put, List.setIfInBounds_toArray, List.set_cons_zero, List.set_cons_succ])
        refine wpAnyH_take (i := 9) (v := ?v909) rfl (by kernel_rfl) (by kernel_rfl) (by kernel_rfl) (fun _ _ _ h => h) (Or.inl ⟨by rfl, ?hy909⟩) (by assumption) ?rest909
        case hy909 => (intro w hSw; (try dsimp only at hSw); go_simp; try (with_reducible rfl))
        (try simp only [Act.put, List.setIfInBounds_toArray, List.set_cons_zero, List.set_cons_succ])
        refine wpAnyH_take (i := 10) (v := ?v1010) rfl (by kernel_rfl) (by kernel_rfl) (by kernel_rfl) (fun _ _ _ h => h) (Or.inl ⟨by rfl, ?hy1010⟩) (by assumption) ?rest1010
        case hy1010 => (intro w hSw; (try dsimp only at hSw); go_simp; try (with_reducible rfl))
        (try simp only [Act.put, List.setIfInBounds_toArray, List.set_cons_zero, List.set_cons_succ])
        refine wpAnyH_ready (rs := [1, 11]) (by kernel_rfl) (by simp) ?_
        refine AllReadyH.cons rfl (fun K hK => ?_) (AllReadyH.cons rfl (fun K hK => ?_) AllReadyH.nil)
        go_simp
        refine hK.out _ _ ?_ (fun hHeld => ?_)
        · (try dsimp only)
          (first | exact (HKP.out _ hg).2 | exact HKQ.out _ hg _ | go_keep)
        clear hK K
        (try simp only [Act.put, List.setIfInBounds_toArray, List.set_cons_zero, List.set_cons_succ])
        refine wpAnyH_ready (rs := [11]) (by kernel_rfl) (by simp) ?_
        refine AllReadyH.cons rfl (fun K hK => ?_) AllReadyH.nil
        go_simp
        refine hK.out _ _ ?_ (fun hHeld => ?_)
        · (try dsimp only)
          (first | exact (HKP.out _ hg).2 | exact HKQ.out _ hg _ | go_keep)
        clear hK K
        (try simp only [Act.put, List.setIfInBounds_toArray, List.set_cons_zero, List.set_cons_succ])
        refine wpAnyH_ready (rs := [12]) (by kernel_rfl) (by simp) ?_
        refine AllReadyH.cons rfl (fun K hK => ?_) AllReadyH.nil
        refine Kd.R_append_step k89 (w0 := w) (W := wr.drew) w.heap.size (by rfl) (.tmp 40) (.tmp 50) 30 89 (.agg #[(.string ⟨#[]⟩), (.int .i64 0), (.int .i64 0)]) 32 rfl Try.underlying30 infoT rfl (by decide) (by omega) tv (termsOf ws vs i) ⟨rdOf ByteArray.empty ws (i : Int), rd_T27 vs (i : Int)⟩ [.string (rdOf ByteArray.empty ws (i : Int)), .int .i64 (rd_T27 vs (i : Int)).f0, .int .i64 (rd_T27 vs (i : Int)).f1] (fun _ => True) (fun _ => False) rfl rfl ?aP (fun _ hk => hk.elim) ?aF ?aO ?aB ?aS ?aL ?_; (case aP => exact k89_mkM _ _ _ _); (case aF => exact (fun _ _ => trivial)); (case aO => exact Kd.R_drew TR.out); (case aB => exact below_drew BB.out); (case aS => exact hsm); (case aL => omega); intro v1 w1 ho hb hg hat; obtain ⟨hz1, hz2⟩ := HFZ.out _ hg; obtain ⟨A1, c1, rfl⟩ := Kd.R_slice ho
        refine hK.out _ _ ?_ (fun hHeld => ?_)
        · (try dsimp only)
          (first | exact (HKP.out _ hg).2 | exact HKQ.out _ hg _ | go_keep)
        clear hK K
        (try simp only [Act.put, List.setIfInBounds_toArray, List.set_cons_zero, List.set_cons_succ])
        refine wpAnyH_take (i := 13) (v := ?v1113) rfl (by kernel_rfl) (by kernel_rfl) (by kernel_rfl) (fun _ _ _ h => h) (Or.inl ⟨by rfl, ?hy1113⟩) (by assumption) ?rest1113
        case hy1113 => (intro w hSw; (try dsimp only at hSw); go_simp; try (with_reducible rfl))
        (try simp only [Act.put, List.setIfInBounds_toArray, List.set_cons_zero, List.set_cons_succ])
        refine wpAnyH_ready (rs := [14]) (by kernel_rfl) (by simp) ?_
        refine AllReadyH.cons rfl (fun K hK => ?_) AllReadyH.nil
        go_simp
        refine hK.out _ _ ?_ (fun hHeld => ?_)
        · (try dsimp only)
          (first | exact (HKP.out _ hg).2 | exact HKQ.out _ hg _ | go_keep)
        clear hK K
        (try simp only [Act.put, List.setIfInBounds_toArray, List.set_cons_zero, List.set_cons_succ])
        refine wpAnyH_done (by kernel_rfl) ?_ _
        rotate_left
        go_simp
        refine hK.out _ _ ?_ (fun hHeld => ?_)
        · (try dsimp only)
          (first | exact (HKP.out _ hg).2 | exact HKQ.out _ hg _ | go_keep)
        clear hK K
        (try simp only [Act.put, List.setIfInBounds_toArray, List.set_cons_zero, List.set_cons_succ])
        refine wpAnyH_ready (rs := [1]) (by kernel_rfl) (by simp) ?_
        refine AllReadyH.cons rfl (fun K hK => ?_) AllReadyH.nil
        go_simp
        refine hK.out _ _ ?_ (fun hHeld => ?_)
        · (try dsimp only)
          (first | exact (HKP.out _ hg).2 | exact HKQ.out _ hg _ | go_keep)
        clear hK K
        (try simp only [Act.put, List.setIfInBounds_toArray, List.set_cons_zero, List.set_cons_succ])
        refine wpAnyH_ready (rs := [12]) (by kernel_rfl) (by simp) ?_
        refine AllReadyH.cons rfl (fun K hK => ?_) AllReadyH.nil
        refine Kd.R_append_step k89 (w0 := w) (W := wr.drew) w.heap.size (by rfl) (.tmp 40) (.tmp 50) 30 89 (.agg #[(.string ⟨#[]⟩), (.int .i64 0), (.int .i64 0)]) 32 rfl Try.underlying30 infoT rfl (by decide) (by omega) tv (termsOf ws vs i) ⟨rdOf ByteArray.empty ws (i : Int), rd_T27 vs (i : Int)⟩ [.string (rdOf ByteArray.empty ws (i : Int)), .int .i64 (rd_T27 vs (i : Int)).f0, .int .i64 (rd_T27 vs (i : Int)).f1] (fun _ => True) (fun _ => False) rfl rfl ?aP2 (fun _ hk => hk.elim) ?aF2 ?aO2 ?aB2 ?aS2 ?aL2 ?_; (case aP2 => exact k89_mkM _ _ _ _); (case aF2 => exact (fun _ _ => trivial)); (case aO2 => exact Kd.R_drew TR.out); (case aB2 => exact below_drew BB.out); (case aS2 => exact hsm); (case aL2 => omega); intro v1 w1 ho hb hg hat; obtain ⟨hz1, hz2⟩ := HFZ.out _ hg; obtain ⟨A1, c1, rfl⟩ := Kd.R_slice ho
        refine hK.out _ _ ?_ (fun hHeld => ?_)
        · (try dsimp only)
          (first | exact (HKP.out _ hg).2 | exact HKQ.out _ hg _ | go_keep)
        clear hK K
        (try simp only [Act.put, List.setIfInBounds_toArray, List.set_cons_zero, List.set_cons_succ])
        refine wpAnyH_take (i := 13) (v := ?v1213) rfl (by kernel_rfl) (by kernel_rfl) (by kernel_rfl) (fun _ _ _ h => h) (Or.inl ⟨by rfl, ?hy1213⟩) (by assumption) ?rest1213
        case hy1213 => (intro w hSw; (try dsimp only at hSw); go_simp; try (with_reducible rfl))
        (try simp only [Act.put, List.setIfInBounds_toArray, List.set_cons_zero, List.set_cons_succ])
        refine wpAnyH_ready (rs := [14]) (by kernel_rfl) (by simp) ?_
        refine AllReadyH.cons rfl (fun K hK => ?_) AllReadyH.nil
        go_simp
        refine hK.out _ _ ?_ (fun hHeld => ?_)
        · (try dsimp only)
          (first | exact (HKP.out _ hg).2 | exact HKQ.out _ hg _ | go_keep)
        clear hK K
        (try simp only [Act.put, List.setIfInBounds_toArray, List.set_cons_zero, List.set_cons_succ])
        refine wpAnyH_done (by kernel_rfl) ?_ _
        all_goals (refine NoPanic.normal ?_)
        all_goals go_wp2
        all_goals
          have hz : ((rd_T27 vs (i : Int)).f0 != 0) = true := by assumption
          obtain ⟨m1, m2, m3, m4, m5, m6⟩ := HNE.out
          have hx1 := (hg.block _ hxl m1).trans XB.out
          have hrl := (Array.getElem?_eq_some_iff.1 RB.out).1
          refine ⟨⟨i + 1, _, by omega, by go_num, ⟨HT.out.move (fun k hk => ?_)⟩, ⟨(Below.heap_setCell w1 ⟨w.heap.size + 1, 2, none⟩ _ w.heap.size (by simp)).trans ((hg.block _ hrl m4).trans RB.out)⟩, ⟨blk_put hx1 2 _ rfl⟩, ⟨?_⟩, ⟨?_⟩, ⟨below_set hb (by omega)⟩⟩, by simp [intOf]; omega⟩
          · rcases hk with rfl | rfl
            · exact (Below.heap_setCell w1 ⟨w.heap.size + 1, 2, none⟩ _ _ m5).trans (hg.block _ hbl m2)
            · exact (Below.heap_setCell w1 ⟨w.heap.size + 1, 2, none⟩ _ _ m6).trans (hg.block _ hgl m3)
          · rw [termsOf_succ, if_neg (by simpa using hz)]
            have := Kd.R_set ho hx1 (by decide) 2 (.slice A1 ((termsOf ws vs i).length + 1) c1)
            simpa using this
          · exact Kd.R_set (Kd.R_over' (Kd.R_drew WR.out) (Kd.R_typed (Kd.R_drew TR.out)) (by decide) hg) hx1 (by decide) 2 _
      · rename_i hz
        refine ⟨⟨i + 1, tv, by omega, by go_num, HT, RB, XB, ⟨?_⟩, WR, BB⟩, by simp [intOf]; omega⟩
        rw [termsOf_succ, if_pos (by simpa using hz), List.append_nil]
        exact TR.out
    · obtain rfl : i = ws.length := by omega
      obtain ⟨At, ct, rfl⟩ := Kd.R_slice TR.out
      have c0 : wr.cell? ⟨w.heap.size + 1, 0, none⟩ = some (.int .i64 d) := (blk_cell XB.out 0).trans rfl
      have c1 : wr.cell? ⟨w.heap.size + 1, 1, none⟩ = some (.int .i64 n) := (blk_cell XB.out 1).trans rfl
      have c2 : wr.cell? ⟨w.heap.size + 1, 2, none⟩ = some (.slice At (termsOf ws vs ws.length).length ct) := (blk_cell XB.out 2).trans rfl
      have r0 : wr.cell? ⟨w.heap.size, 0, none⟩ = some (.int .i64 0) := (blk_cell RB.out 0).trans rfl
      have r1 : wr.cell? ⟨w.heap.size, 1, none⟩ = some (.int .i64 0) := (blk_cell RB.out 1).trans rfl
      have r2 : wr.cell? ⟨w.heap.size, 2, none⟩ = some (.slice none 0 0) := (blk_cell RB.out 2).trans rfl
      have f0 := blk_frozen RB.out 0
      have f1 := blk_frozen RB.out 1
      have f2 := blk_frozen RB.out 2
      go_wp2
      refine bodyPost_ret (results_cell_row rfl _ _ w.heap.size 32 #[.int .i64 d, .int .i64 n, .slice At (termsOf ws vs ws.length).length ct] (0, 0) _ rfl (blk_put (cs := #[.int .i64 d, .int .i64 n, .slice none 0 0]) (blk_put (cs := #[.int .i64 d, .int .i64 0, .slice none 0 0]) (blk_put (cs := #[.int .i64 0, .int .i64 0, .slice none 0 0]) RB.out 0 _ rfl) 1 _ rfl) 2 _ rfl) Try.underlying32 rfl (by kernel_rfl)) rfl ?_
      have q0 := RB.out
      have q1 := blk_put (cs' := #[.int .i64 d, .int .i64 0, .slice none 0 0]) q0 0 (.int .i64 d) rfl
      have q2 := blk_put (cs' := #[.int .i64 d, .int .i64 n, .slice none 0 0]) q1 1 (.int .i64 n) rfl
      exact ⟨_, rfl, Kd.R_set (Kd.R_set (Kd.R_set TR.out q0 (by decide) 0 _) q1 (by decide) 1 _) q2 (by decide) 2 _, below_set (below_set (below_set BB.out (Nat.le_refl _)) (Nat.le_refl _)) (Nat.le_refl _)⟩
end Go.Proofs.Ytcklefgkbddlhaa.Tab
/- What a call of told comes to. -/
namespace Go.Proofs.Ytcklefgkbddlhaa.Tab
open Go.RowKit Go.Proofs.Ytcklefgkbddlhaa.P Go.Proofs.YtcklefgkbddlhaaW.PrintWords Go.Proofs.YtcklefgkbddlhaaW.PrintLast Go.Proofs.YtcklefgkbddlhaaW.PrintMore
set_option linter.unusedVariables false
set_option linter.unusedSimpArgs false

/-- What told returns. -/
def toldOf (d n : Int) (ws : List ByteArray) (vs : List S27) (bad : Bool) : Int × Int × List S89 × Int := if bad = true then (0, 0, [], 3) else (d, n, termsOf ws vs ws.length, 0)
set_option maxHeartbeats 8000000 in
set_option maxRecDepth 100000 in
theorem told (k : Nat) (d n : Int) (ws : List ByteArray) (hk : impl_allWords.f k d n = some ws) (h1 : 1 ≤ ws.length) (h2 : ws.length ≤ 1000) (base B g cap : Nat) (vs : List S27) (bad : Bool) (hl : vs.length = ws.length) (w : World) (h : Tab w base B g cap d n vs bad) :
    Calls Try.prog 75 #[.pointer (some ⟨B, 0, none⟩)] w fun e w' => ∃ v, e = .returned (.tuple #[.agg #[.int .i64 (toldOf d n ws vs bad).1, .int .i64 (toldOf d n ws vs bad).2.1, v], .int .i64 (toldOf d n ws vs bad).2.2.2]) ∧ Kd.R k89 89 w' w.heap.size (fun _ => True) v (toldOf d n ws vs bad).2.2.1 ∧ Below w.heap.size w w' := by
  have HT := Aside0.mk h
  have x3 := h.cells.2.2.2
  have hlt := h.ltB
  have HN3 := World.new_ne w _ x3
  have HK := Aside0.mk hk
  clear h hk
  cases bad with
  | true =>
    go_enter Try.func75, Try.ntmps75
    go_wp2
    refine bodyPost_ret (results_list (rs := [.cell 2 32, .tmp 3]) (vs := [.agg #[.int .i64 0, .int .i64 0, .slice none 0 0], .int .i64 3]) rfl (by decide) (.cell w.heap.size 32 #[.int .i64 0, .int .i64 0, .slice none 0 0] (0, 0) _ rfl ?_ Try.underlying32 rfl (by kernel_rfl) (.tmp .nil))) rfl ?_
    · exact blk_new _ _
    · exact ⟨_, rfl, Kd.R_nil _ _ _ _ _, below_alloc (Below.refl _ _) _⟩
  | false =>
    go_enter Try.func75, Try.ntmps75
    go_wp2_with (go_at_call 88; refine (series k d n ws HK.out h1 h2 base B g cap vs false hl _ (HT.out.below (below_alloc (Below.refl _ _) _))).mono ?_; rintro e w1 ⟨v, rfl, hv, hb⟩; obtain ⟨At, ct, rfl⟩ := Kd.R_slice hv; have hr := (hb.block w.heap.size (by simp)).trans (blk_new w _); have r0 : w1.cell? ⟨w.heap.size, 0, none⟩ = some (.int .i64 0) := (blk_cell hr 0).trans rfl; have r1 : w1.cell? ⟨w.heap.size, 1, none⟩ = some (.int .i64 0) := (blk_cell hr 1).trans rfl; have r2 : w1.cell? ⟨w.heap.size, 2, none⟩ = some (.slice none 0 0) := (blk_cell hr 2).trans rfl; have f0 := blk_frozen hr 0; have f1 := blk_frozen hr 1; have f2 := blk_frozen hr 2; have HR := Aside0.mk hr; have HV := Aside0.mk hv; have HB := Aside0.mk hb; clear hr hv hb)
    have q0 := HR.out
    have q1 := blk_put (cs' := #[.int .i64 d, .int .i64 0, .slice none 0 0]) q0 0 (.int .i64 d) rfl
    have q2 := blk_put (cs' := #[.int .i64 d, .int .i64 n, .slice none 0 0]) q1 1 (.int .i64 n) rfl
    refine bodyPost_ret (results_list (rs := [.cell 2 32, .tmp 3]) (vs := [.agg #[.int .i64 d, .int .i64 n, .slice At (termsOf ws vs ws.length).length ct], .int .i64 0]) rfl (show (2 : Nat) ≠ 1 from by decide) (.cell w.heap.size 32 #[.int .i64 d, .int .i64 n, .slice At (termsOf ws vs ws.length).length ct] (0, 0) _ rfl (blk_put q2 2 _ rfl) Try.underlying32 rfl (by kernel_rfl) (.tmp .nil))) rfl ?_
    have hB := below_step (below_alloc (Below.refl w.heap.size w) (.cells #[.int .i64 0, .int .i64 0, .slice none 0 0] 32)) HB.out
    exact ⟨_, rfl, Kd.R_set (Kd.R_set (Kd.R_set (Kd.R_lower HV.out (by simp)) q0 (by decide) 0 _) q1 (by decide) 1 _) q2 (by decide) 2 _, below_set (below_set (below_set hB (Nat.le_refl _)) (Nat.le_refl _)) (Nat.le_refl _)⟩
end Go.Proofs.Ytcklefgkbddlhaa.Tab
/- A value is added at a word: what calls of add and addTimes come to. (Printed by a program of this session, but for the laws' heads.) -/
namespace Go.Proofs.Ytcklefgkbddlhaa.Tab
open Go.RowKit Go.Proofs.Ytcklefgkbddlhaa.P Go.Proofs.YtcklefgkbddlhaaW.PrintWords Go.Proofs.YtcklefgkbddlhaaW.PrintLast Go.Proofs.YtcklefgkbddlhaaW.PrintMore
set_option linter.unusedVariables false
set_option linter.unusedSimpArgs false

/-- All blocks but B and g are as they were. -/
def Touch2 (w w' : World) (B g : Nat) : Prop := w.heap.size ≤ w'.heap.size ∧ ∀ k, k < w.heap.size → k ≠ B → k ≠ g → w'.heap[k]? = w.heap[k]?
theorem Touch2.trans {w w' w'' : World} {B g : Nat} (h : Touch2 w w' B g) (h' : Touch2 w' w'' B g) : Touch2 w w'' B g := ⟨Nat.le_trans h.1 h'.1, fun k hk h1 h2 => (h'.2 k (Nat.lt_of_lt_of_le hk h.1) h1 h2).trans (h.2 k hk h1 h2)⟩
theorem Touch2.of_below {w w' : World} (B g : Nat) (h : Below w.heap.size w w') : Touch2 w w' B g := ⟨h.size, fun k hk _ _ => h.block k hk⟩
theorem Touch2.of_touch {w w' : World} {B : Nat} (g : Nat) (h : Touch w w' B) : Touch2 w w' B g := ⟨h.1, fun k hk h1 _ => h.2 k hk h1⟩
theorem Touch2.set (w : World) (B g j : Nat) (v : Value) : Touch2 w (w.setCell ⟨g, j, none⟩ v) B g := ⟨by simp, fun k _ _ hne => Below.heap_setCell w ⟨g, j, none⟩ v k hne⟩
theorem of_drawn {w w' : World} (h : Drawn0 w w') : Below w.heap.size w w' := by
  obtain ⟨n, rfl⟩ := h
  exact pw_below_drewN (Below.refl _ _) _
theorem keep_far {w : World} {B g A j j' : Nat} {u v0 v1 x y : Value} (hB : B ≠ g) (hA : A ≠ g) (h : w.cell? ⟨B, 2, none⟩ = some u ∧ w.cell? ⟨A, 0, none⟩ = some v0 ∧ w.cell? ⟨A, 1, none⟩ = some v1) :
    ((w.setCell ⟨g, j, none⟩ x).setCell ⟨g, j', none⟩ y).cell? ⟨B, 2, none⟩ = some u ∧ ((w.setCell ⟨g, j, none⟩ x).setCell ⟨g, j', none⟩ y).cell? ⟨A, 0, none⟩ = some v0 ∧ ((w.setCell ⟨g, j, none⟩ x).setCell ⟨g, j', none⟩ y).cell? ⟨A, 1, none⟩ = some v1 := by
  have e : ∀ k, k ≠ g → ((w.setCell ⟨g, j, none⟩ x).setCell ⟨g, j', none⟩ y).heap[k]? = w.heap[k]? := fun k hk => (Below.heap_setCell _ ⟨g, j', none⟩ _ k hk).trans (Below.heap_setCell w ⟨g, j, none⟩ _ k hk)
  exact ⟨(cell_of_block (e B hB)).trans h.1, (cell_of_block (e A hA)).trans h.2.1, (cell_of_block (e A hA)).trans h.2.2⟩
/-- What an added value makes of a table. -/
def addV (vs : List S27) (i : Nat) (s0 s1 : Int) (fits : Bool) : List S27 := vs.set i ⟨sel fits s0 0, sel fits s1 1⟩
set_option maxHeartbeats 16000000 in
set_option maxRecDepth 100000 in
theorem add (k : Nat) (base B g cap : Nat) (d n : Int) (vs : List S27) (bad : Bool) (word : ByteArray) (i : Nat) (a0 a1 s0 s1 : Int) (fits : Bool) (hi : impl_number.f k d word = some (i : Int)) (hlt : i < vs.length)
    (hs : impl_Fraction_plus.f k (rd_T27 vs (i : Int)).f0 (rd_T27 vs (i : Int)).f1 a0 a1 = some (s0, s1, fits)) (w : World) (h : Tab w base B g cap d n vs bad) :
    Calls Try.prog 95 #[.pointer (some ⟨B, 0, none⟩), .string word, .agg #[.int .i64 a0, .int .i64 a1]] w fun e w' => e = .returned (.tuple #[]) ∧ Tab w' base B g cap d n (addV vs i s0 s1 fits) (bad || !fits) ∧ Touch2 w w' B g ∧ ∀ b, b ≤ B → b ≤ g → Below b w w' := by
  have HT := Aside0.mk h
  have HI := Aside0.mk hi
  have HS := Aside0.mk hs
  have b1 := below_alloc (Below.refl w.heap.size w) (.cells #[.int .i64 a0, .int .i64 a1] 27)
  have AB0 := Aside0.mk (blk_new w (.cells #[.int .i64 a0, .int .i64 a1] 27))
  have HB0 := Aside0.mk b1
  have hsz : (w.alloc (.cells #[.int .i64 a0, .int .i64 a1] 27)).heap.size = w.heap.size + 1 := by simp
  clear h hi hs b1
  have HT0 := Aside0.mk (HT.out.below HB0.out)
  have hBA : B < w.heap.size := HT.out.ltB
  have hgA : g < w.heap.size := HT.out.lt
  have x0 := HT0.out.cells.1
  go_enter Try.func95, Try.ntmps95
  go_wp2_with (go_at_call 141; refine (impl_number.calls k d word (i : Int) _ HI.out).mono ?_; rintro e w1 ⟨rfl, hd1⟩; have hb1 := of_drawn hd1; have HT1 := Aside0.mk (HT0.out.below hb1); have AB1 := Aside0.mk ((hb1.block w.heap.size (by omega)).trans AB0.out); have HB1 := Aside0.mk (below_step HB0.out hb1); have hAl : w.heap.size < w1.heap.size := (Array.getElem?_eq_some_iff.1 AB1.out).1; clear hb1)
  clear x0
  generalize hAe : w.heap.size = A at AB1 hBA hgA hAl ⊢
  obtain ⟨x0, x1, x2, x3⟩ := HT1.out.cells
  obtain ⟨v0, v1, vf⟩ := HT1.out.val (i : Int) (by omega) (by omega)
  rw [Int.toNat_natCast] at v0 v1
  have r0 : w1.cell? ⟨A, 0, none⟩ = some (.int .i64 a0) := (blk_cell AB1.out 0).trans rfl
  have r1 : w1.cell? ⟨A, 1, none⟩ = some (.int .i64 a1) := (blk_cell AB1.out 1).trans rfl
  have p1 : (0 ≤ (i : Int)) = True := eq_true (by omega)
  have p2 : ((i : Int) < (vs.length : Int)) = True := eq_true (by omega)
  have p3 : (i < vs.length) = True := eq_true hlt
  have hK1 : ∀ W7 : World, Below w1.heap.size w1 W7 → W7.cell? ⟨B, 2, none⟩ = some (.slice (some ⟨g, 0, none⟩) vs.length cap) ∧ W7.cell? ⟨A, 0, none⟩ = some (.int .i64 a0) ∧ W7.cell? ⟨A, 1, none⟩ = some (.int .i64 a1) := fun W7 hb => ⟨pw_cell_below hb x2, pw_cell_below hb r0, pw_cell_below hb r1⟩
  have HK1 := Aside0.mk hK1
  clear hK1 x0 x1 x3 vf
  refine wp_region_noPanic ?_
  refine wp_region_held_drew (S := (fun w' => w'.cell? ⟨B, 2, none⟩ = some (.slice (some ⟨g, 0, none⟩) vs.length cap) ∧ w'.cell? ⟨A, 0, none⟩ = some (.int .i64 a0) ∧ w'.cell? ⟨A, 1, none⟩ = some (.int .i64 a1))) (by kernel_rfl) ?_ (fun hHeld => ?_)
  · (try dsimp only)
    (exact HK1.out _ (below_drew (Below.refl _ _)))
  refine wpAnyH_take (i := 0) (v := ?v0) rfl (by kernel_rfl) (by kernel_rfl) (by kernel_rfl) (fun _ _ _ h => h) (Or.inl ⟨by rfl, ?hy0⟩) (by assumption) ?rest0
  case hy0 => (intro w hSw; (try dsimp only at hSw); go_simp; try (with_reducible rfl))
  (try simp only [Act.put, List.setIfInBounds_toArray, List.set_cons_zero, List.set_cons_succ])
  refine wpAnyH_take (i := 1) (v := ?v1) rfl (by kernel_rfl) (by kernel_rfl) (by kernel_rfl) (fun _ _ _ h => h) (Or.inl ⟨by rfl, ?hy1⟩) (by assumption) ?rest1
  case hy1 => (intro w hSw; (try dsimp only at hSw); go_simp; try (with_reducible rfl))
  (try simp only [Act.put, List.setIfInBounds_toArray, List.set_cons_zero, List.set_cons_succ])
  refine wpAnyH_take (i := 2) (v := ?v2) rfl (by kernel_rfl) (by kernel_rfl) (by kernel_rfl) (fun _ _ _ h => h) (Or.inl ⟨by rfl, ?hy2⟩) (by assumption) ?rest2
  case hy2 => (intro w hSw; (try dsimp only at hSw); go_simp; try (with_reducible rfl))
  (try simp only [Act.put, List.setIfInBounds_toArray, List.set_cons_zero, List.set_cons_succ])
  refine wpAnyH_take (i := 3) (v := ?v3) rfl (by kernel_rfl) (by kernel_rfl) (by kernel_rfl) (fun _ _ _ h => h) (Or.inl ⟨by rfl, ?hy3⟩) (by assumption) ?rest3
  case hy3 => (intro w hSw; (try dsimp only at hSw); go_simp; try (with_reducible rfl))
  (try simp only [Act.put, List.setIfInBounds_toArray, List.set_cons_zero, List.set_cons_succ])
  refine wpAnyH_take (i := 4) (v := ?v4) rfl (by kernel_rfl) (by kernel_rfl) (by kernel_rfl) (fun _ _ _ h => h) (Or.inl ⟨by rfl, ?hy4⟩) (by assumption) ?rest4
  case hy4 => (intro w hSw; (try dsimp only at hSw); go_simp; try (with_reducible rfl))
  (try simp only [Act.put, List.setIfInBounds_toArray, List.set_cons_zero, List.set_cons_succ])
  refine wpAnyH_take (i := 5) (v := ?v5) rfl (by kernel_rfl) (by kernel_rfl) (by kernel_rfl) (fun _ _ _ h => h) (Or.inl ⟨by rfl, ?hy5⟩) (by assumption) ?rest5
  case hy5 => (intro w hSw; (try dsimp only at hSw); go_simp; try (with_reducible rfl))
  (try simp only [Act.put, List.setIfInBounds_toArray, List.set_cons_zero, List.set_cons_succ])
  refine wpAnyH_take (i := 6) (v := ?v6) rfl (by kernel_rfl) (by kernel_rfl) (by kernel_rfl) (fun _ _ _ h => h) (Or.inl ⟨by rfl, ?hy6⟩) (by assumption) ?rest6
  case hy6 => (intro w hSw; (try dsimp only at hSw); go_simp; try (with_reducible rfl))
  (try simp only [Act.put, List.setIfInBounds_toArray, List.set_cons_zero, List.set_cons_succ])
  refine wpAnyH_take (i := 7) (v := ?v7) rfl (by kernel_rfl) (by kernel_rfl) (by kernel_rfl) (fun _ _ _ h => h) (Or.inl ⟨by rfl, ?hy7⟩) (by assumption) ?rest7
  case hy7 => (intro w hSw; (try dsimp only at hSw); go_simp; try (with_reducible rfl))
  (try simp only [Act.put, List.setIfInBounds_toArray, List.set_cons_zero, List.set_cons_succ])
  refine wpAnyH_take (i := 8) (v := ?v8) rfl (by kernel_rfl) (by kernel_rfl) (by kernel_rfl) (fun _ _ _ h => h) (Or.inl ⟨by rfl, ?hy8⟩) (by assumption) ?rest8
  case hy8 => (intro w hSw; (try dsimp only at hSw); go_simp; try (with_reducible rfl))
  (try simp only [Act.put, List.setIfInBounds_toArray, List.set_cons_zero, List.set_cons_succ])
  refine wpAnyH_take (i := 9) (v := ?v9) rfl (by kernel_rfl) (by kernel_rfl) (by kernel_rfl) (fun _ _ _ h => h) (Or.inl ⟨by rfl, ?hy9⟩) (by assumption) ?rest9
  case hy9 => (intro w hSw; (try dsimp only at hSw); go_simp; try (with_reducible rfl))
  (try simp only [Act.put, List.setIfInBounds_toArray, List.set_cons_zero, List.set_cons_succ])
  refine wpAnyH_take (i := 10) (v := ?v10) rfl (by kernel_rfl) (by kernel_rfl) (by kernel_rfl) (fun _ _ _ h => h) (Or.inl ⟨by rfl, ?hy10⟩) (by assumption) ?rest10
  case hy10 => (intro w hSw; (try dsimp only at hSw); go_simp; try (with_reducible rfl))
  (try simp only [Act.put, List.setIfInBounds_toArray, List.set_cons_zero, List.set_cons_succ])
  refine wpAnyH_take (i := 11) (v := ?v11) rfl (by kernel_rfl) (by kernel_rfl) (by kernel_rfl) (fun _ _ _ h => h) (Or.inl ⟨by rfl, ?hy11⟩) (by assumption) ?rest11
  case hy11 => (intro w hSw; (try dsimp only at hSw); go_simp; try (with_reducible rfl))
  (try simp only [Act.put, List.setIfInBounds_toArray, List.set_cons_zero, List.set_cons_succ])
  refine wpAnyH_take (i := 13) (v := ?v12) rfl (by kernel_rfl) (by kernel_rfl) (by kernel_rfl) (fun _ _ _ h => h) (Or.inl ⟨by rfl, ?hy12⟩) (by assumption) ?rest12
  case hy12 => (intro w hSw; (try dsimp only at hSw); go_simp; try (with_reducible rfl))
  (try simp only [Act.put, List.setIfInBounds_toArray, List.set_cons_zero, List.set_cons_succ])
  refine wpAnyH_ready (rs := [12]) (by kernel_rfl) (by simp) ?_
  refine AllReadyH.cons rfl (fun K hK => ?_) AllReadyH.nil
  go_simp
  refine hK.out _ _ ?_ (fun hHeld => ?_)
  · (try dsimp only)
    (exact HK1.out _ (below_drew (Below.refl _ _)))
  clear hK K
  (try simp only [Act.put, List.setIfInBounds_toArray, List.set_cons_zero, List.set_cons_succ])
  refine wpAnyH_ready (rs := [14]) (by kernel_rfl) (by simp) ?_
  refine AllReadyH.cons rfl (fun K hK => ?_) AllReadyH.nil
  go_simp
  (go_at_call 115; refine (impl_Fraction_plus.calls k _ _ a0 a1 s0 s1 fits _ HS.out).mono ?_; rintro e w7 ⟨rfl, hb7⟩)
  refine hK.out _ _ ?_ (fun hHeld => ?_)
  · (try dsimp only)
    (exact HK1.out _ (below_step (below_drew (Below.refl _ _)) hb7))
  clear hK K
  (try simp only [Act.put, List.setIfInBounds_toArray, List.set_cons_zero, List.set_cons_succ])
  refine wpAnyH_take (i := 15) (v := ?v13) rfl (by kernel_rfl) (by kernel_rfl) (by kernel_rfl) (fun _ _ _ h => h) (Or.inl ⟨by rfl, ?hy13⟩) (by assumption) ?rest13
  case hy13 => (intro w hSw; (try dsimp only at hSw); go_simp; try (with_reducible rfl))
  (try simp only [Act.put, List.setIfInBounds_toArray, List.set_cons_zero, List.set_cons_succ])
  refine wpAnyH_take (i := 16) (v := ?v14) rfl (by kernel_rfl) (by kernel_rfl) (by kernel_rfl) (fun _ _ _ h => h) (Or.inl ⟨by rfl, ?hy14⟩) (by assumption) ?rest14
  case hy14 => (intro w hSw; (try dsimp only at hSw); go_simp; try (with_reducible rfl))
  (try simp only [Act.put, List.setIfInBounds_toArray, List.set_cons_zero, List.set_cons_succ])
  refine wpAnyH_ready (rs := [17]) (by kernel_rfl) (by simp) ?_
  refine AllReadyH.cons rfl (fun K hK => ?_) AllReadyH.nil
  go_simp
  (go_at_call 142; refine (check s0 s1 fits base B g cap d n _ _ _ ((HT1.out.below (below_drew (Below.refl _ _))).below hb7)).mono ?_; rintro e w8 ⟨rfl, ht8, hto8, hbb8⟩; have n7 := HK1.out _ (below_step (below_drew (Below.refl _ _)) hb7); have q2 := ht8.cells.2.2.1; have hA7 : A < w7.heap.size := Nat.lt_of_lt_of_le hAl hb7.size; have eA := hto8.2 A hA7 (Nat.ne_of_gt hBA); have hq8 : w8.cell? ⟨B, 2, none⟩ = some (.slice (some ⟨g, 0, none⟩) vs.length cap) ∧ w8.cell? ⟨A, 0, none⟩ = some (.int .i64 a0) ∧ w8.cell? ⟨A, 1, none⟩ = some (.int .i64 a1) := ⟨q2, (cell_of_block eA).trans n7.2.1, (cell_of_block eA).trans n7.2.2⟩; obtain ⟨gv0, gv1, gvf⟩ := ht8.val (i : Int) (by omega) (by omega); rw [Int.toNat_natCast] at gv0 gv1; have gf0 := gvf (i * 2); have gf1 := gvf (i * 2 + 1); have hq9 := keep_far (x := .int .i64 (sel fits s0 0)) (y := .int .i64 (sel fits s1 1)) (j := i * 2) (j' := i * 2 + 1) ht8.ne (Nat.ne_of_gt hgA) hq8; clear n7 q2 eA gvf)
  refine hK.out _ _ ?_ (fun hHeld => ?_)
  · (try dsimp only)
    (exact hq8)
  clear hK K
  (try simp only [Act.put, List.setIfInBounds_toArray, List.set_cons_zero, List.set_cons_succ])
  refine wpAnyH_take (i := 18) (v := ?v15) rfl (by kernel_rfl) (by kernel_rfl) (by kernel_rfl) (fun _ _ _ h => h) (Or.inl ⟨by rfl, ?hy15⟩) (by assumption) ?rest15
  case hy15 => (intro w hSw; (try dsimp only at hSw); go_simp; try (with_reducible rfl))
  (try simp only [Act.put, List.setIfInBounds_toArray, List.set_cons_zero, List.set_cons_succ])
  refine wpAnyH_ready (rs := [19]) (by kernel_rfl) (by simp) ?_
  refine AllReadyH.cons rfl (fun K hK => ?_) AllReadyH.nil
  go_simp
  refine hK.out _ _ ?_ (fun hHeld => ?_)
  · (try dsimp only)
    (exact hq9)
  clear hK K
  (try simp only [Act.put, List.setIfInBounds_toArray, List.set_cons_zero, List.set_cons_succ])
  refine wpAnyH_done (by kernel_rfl) ?_ _
  refine NoPanic.normal ?_
  go_wp2
  refine bodyPost_end (results_none rfl _ _ _) rfl ?_
  have hp := ht8.put (i : Int) (by omega) (by omega) (sel fits s0 0) (sel fits s1 1)
  rw [Int.toNat_natCast] at hp
  refine ⟨rfl, hp, ?_, fun b hb hg => ?_⟩
  · refine Touch2.trans (Touch2.of_below B g HB1.out) (Touch2.trans (Touch2.of_below B g (below_step (below_drew (Below.refl _ _)) hb7)) (Touch2.trans (Touch2.of_touch g hto8) (Touch2.trans (Touch2.set _ B g _ _) (Touch2.set _ B g _ _))))
  · have e1 : Below b w w1 := HB1.out.mono (by omega)
    have e2 : Below b w1 w7 := (below_step (below_drew (Below.refl _ _)) hb7).mono (by omega)
    exact (((e1.trans e2).trans (hbb8 b hb)).setCell (p := ⟨g, i * 2, none⟩) hg _).setCell (p := ⟨g, i * 2 + 1, none⟩) hg _
end Go.Proofs.Ytcklefgkbddlhaa.Tab
