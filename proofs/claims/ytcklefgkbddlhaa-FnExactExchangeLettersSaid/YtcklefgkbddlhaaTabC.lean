/- A new table: what a call of newTable comes to; and what check does. -/
import Derived.Test.YtcklefgkbddlhaaTabB
namespace Go.Proofs.Ytcklefgkbddlhaa.Tab
open Go.RowKit Go.Proofs.Ytcklefgkbddlhaa.P Go.Proofs.YtcklefgkbddlhaaW.PrintWords Go.Proofs.YtcklefgkbddlhaaW.PrintLast Go.Proofs.YtcklefgkbddlhaaW.PrintMore
set_option linter.unusedVariables false
set_option linter.unusedSimpArgs false

theorem blk_new (w : World) (o : Obj) : (w.alloc o).heap[w.heap.size]? = some o := by
  show (w.heap.push o)[w.heap.size]? = some o
  simp
theorem cell_new (w : World) (cs : Array Value) (t : TypeId) (j : Nat) : (w.alloc (.cells cs t)).cell? ⟨w.heap.size, j, none⟩ = cs[j]? := by
  have h := blk_new w (.cells cs t)
  simp only [World.cell?, h]
  rfl
theorem row_ok {w : World} {base n cap g : Nat} {ok : Nat → Prop} {vs : List S27} (h : Kd.R k27 27 w base ok (.slice (some ⟨g, 0, none⟩) n cap) vs) : Kd.R k27 27 w base (fun k => k = g) (.slice (some ⟨g, 0, none⟩) n cap) vs := by
  refine ⟨fun k hk => ?_, h.2.imp_ (fun p c hp => ?_)⟩
  · simp [Value.ownBlock] at hk
    exact hk.symm
  · obtain rfl := k27_openM hp
    exact k27_mkM _ _ _ p
set_option maxHeartbeats 4000000 in
set_option maxRecDepth 100000 in
theorem newTable (k : Nat) (d n : Int) (ws : List ByteArray) (hk : impl_allWords.f k d n = some ws) (h1 : 1 ≤ ws.length) (h2 : ws.length ≤ 1000) (w : World) :
    Calls Try.prog 85 #[.int .i64 d, .int .i64 n] w fun e w' => ∃ B g cap, e = .returned (.pointer (some ⟨B, 0, none⟩)) ∧ Tab w' w.heap.size B g cap d n (List.replicate ws.length ⟨0, 1⟩) false ∧ Below w.heap.size w w' := by
  have HK := Aside0.mk hk
  have H1 := Aside0.mk h1
  have H2 := Aside0.mk h2
  clear hk h1 h2
  go_enter Try.func85, Try.ntmps85
  go_wp2_with (first | (go_at_call 131; refine (impl_zero.calls 0 1 _ rfl).mono ?_; rintro e w1 ⟨rfl, hb1⟩; have HB1 := Aside0.mk (below_step (Below.refl w.heap.size w) hb1); clear hb1) | (go_at_call 132; refine (impl_allWords.calls k d n ws _ HK.out).mono ?_; rintro e w2 ⟨v0, rfl, hv0, hb2⟩; obtain ⟨A2, c2, rfl⟩ := Kd.R_slice hv0; have HX := Aside0.mk (show w2.cell? ⟨w1.heap.size, 0, none⟩ = some (.int .i64 0) from (hb2.cell (p := ⟨w1.heap.size, 0, none⟩) (by simp)).trans (cell_new w1 _ _ 0)); have HY := Aside0.mk (show w2.cell? ⟨w1.heap.size, 1, none⟩ = some (.int .i64 1) from (hb2.cell (p := ⟨w1.heap.size, 1, none⟩) (by simp)).trans (cell_new w1 _ _ 1)); have HB2 := Aside0.mk (below_step (below_alloc HB1.out (.cells #[.int .i64 0, .int .i64 1] 27)) hb2); clear hb2 hv0 HB1) | (go_at_call 130; refine (repeat_one 0 1 ws.length H1.out H2.out ⟨w1.heap.size, 0, none⟩ 1 _ HX.out HY.out).mono ?_; rintro e w3 ⟨v, rfl, hv, hb3⟩; obtain ⟨g, cap, ev, hgb, hgl, hcc⟩ := Kd.R_form hv (by rw [List.length_replicate]; exact H1.out); subst ev; have HV := Aside0.mk hv; have HB3 := Aside0.mk (below_step HB2.out hb3); have HG := Aside0.mk hgb; have HGL := Aside0.mk hgl; have HLE := Aside0.mk (below_size HB2.out); clear hv hb3 hgb hgl hcc))
  go_ret
  refine ⟨w3.heap.size, g, cap, rfl, ⟨?_, ?_, below_size HB3.out, Nat.ne_of_gt HGL.out⟩, below_alloc HB3.out _⟩
  · rw [List.length_replicate]
    exact blk_new w3 _
  · rw [List.length_replicate]
    rw [List.length_replicate] at HV
    exact Kd.R_lower (row_ok (Kd.R_alloc HV.out _)) HLE.out
theorem blk_new2 (w : World) (o o' : Obj) : ((w.alloc o).alloc o').heap[w.heap.size + 1]? = some o' := by
  have := blk_new (w.alloc o) o'
  rwa [World.size_alloc] at this
theorem blk_new3 (w : World) (a : Addr) (v : Value) (o o' : Obj) : (((w.setCell a v).alloc o).alloc o').heap[w.heap.size + 1]? = some o' := by
  have := blk_new2 (w.setCell a v) o o'
  simpa using this
theorem two_cells {w : World} {B : Nat} {x y : Value} {t : TypeId} (h : w.heap[B]? = some (.cells #[x, y] t (0, 0))) : w.cell? ⟨B, 0, none⟩ = some x ∧ w.cell? ⟨B, 1, none⟩ = some y ∧ ∀ j, w.frozen? ⟨B, j, none⟩ = false := by
  refine ⟨by simp [World.cell?, h], by simp [World.cell?, h], fun j => blk_frozen h j⟩
/-- One of two. -/
def sel (c : Bool) (x y : Int) : Int := if c = true then x else y
/-- All blocks but B are as they were. -/
def Touch (w w' : World) (B : Nat) : Prop := w.heap.size ≤ w'.heap.size ∧ ∀ k, k < w.heap.size → k ≠ B → w'.heap[k]? = w.heap[k]?
theorem Touch.of_below {w w' : World} (B : Nat) (h : Below w.heap.size w w') : Touch w w' B := ⟨h.size, fun k hk _ => h.block k hk⟩
theorem Touch.trans {w w' w'' : World} {B : Nat} (h : Touch w w' B) (h' : Touch w' w'' B) : Touch w w'' B := ⟨Nat.le_trans h.1 h'.1, fun k hk hne => (h'.2 k (Nat.lt_of_lt_of_le hk h.1) hne).trans (h.2 k hk hne)⟩
theorem Touch.set (w : World) (B j : Nat) (v : Value) : Touch w (w.setCell ⟨B, j, none⟩ v) B := ⟨(Below.refl w.heap.size w |>.setCell (p := ⟨w.heap.size, 0, none⟩) (Nat.le_refl _) v).size |> fun _ => by simp, fun k _ hne => Below.heap_setCell w ⟨B, j, none⟩ v k hne⟩
set_option maxHeartbeats 4000000 in
set_option maxRecDepth 100000 in
theorem check (a b : Int) (fits : Bool) (base B g cap : Nat) (d n : Int) (vs : List S27) (bad : Bool) (w : World) (h : Tab w base B g cap d n vs bad) :
    Calls Try.prog 142 #[.pointer (some ⟨B, 0, none⟩), .agg #[.int .i64 a, .int .i64 b], .bool fits] w fun e w' => e = .returned (.agg #[.int .i64 (sel fits a 0), .int .i64 (sel fits b 1)]) ∧ Tab w' base B g cap d n vs (bad || !fits) ∧ Touch w w' B ∧ ∀ b, b ≤ B → Below b w w' := by
  have HT := Aside0.mk h
  have x3 := h.cells.2.2.2
  have f3 := h.frozen 3
  have hlt := h.ltB
  have HN3 := World.new_ne w _ x3
  clear h
  cases fits with
  | true =>
    go_enter Try.func142, Try.ntmps142
    go_wp2
    refine bodyPost_ret (results_cell_row rfl _ _ (w.heap.size + 1) 27 #[.int .i64 a, .int .i64 b] (0, 0) _ rfl (blk_new2 _ _ _) Try.underlying27 rfl (by kernel_rfl)) rfl ?_
    refine ⟨rfl, ?_, ?_, fun b hb => (below_alloc (below_alloc (Below.refl _ _) _) _).mono (by omega)⟩
    · (try rw [show (bad || !true) = bad from by simp])
      exact HT.out.below (below_alloc (below_alloc (Below.refl _ _) _) _)
    · exact Touch.of_below B (below_alloc (below_alloc (Below.refl _ _) _) _)
  | false =>
    go_enter Try.func142, Try.ntmps142
    go_wp2_with (go_at_call 131; refine (impl_zero.calls 0 1 _ rfl).mono ?_; rintro e w1 ⟨rfl, hb1⟩; have hr := (hb1.block (w.heap.size + 1) (by simp)).trans (blk_new3 w ⟨B, 3, none⟩ (.bool true) _ _); obtain ⟨r0, r1, rf⟩ := two_cells hr; have rf0 := rf 0; have rf1 := rf 1; have HB1 := Aside0.mk hb1; have HR := Aside0.mk hr; clear hb1 hr rf)
    refine bodyPost_ret (results_cell_row rfl _ _ (w.heap.size + 1) 27 #[.int .i64 0, .int .i64 1] (0, 0) _ rfl (blk_put (cs := #[.int .i64 0, .int .i64 0]) (blk_put (cs := #[.int .i64 0, .int .i64 0]) HR.out 0 _ rfl) 1 _ rfl) Try.underlying27 rfl (by kernel_rfl)) rfl ?_
    have ht : Tab w1 base B g cap d n vs true := ((HT.out.mark true).below (below_alloc (below_alloc (Below.refl _ _) _) _)).below HB1.out
    have hgl := HT.out.lt
    refine ⟨rfl, ?_, ?_, fun b' hb => ?_⟩
    rotate_left 2
    · have e1 : Below b' w (w.setCell ⟨B, 3, none⟩ (.bool true)) := (Below.refl b' w).setCell (p := ⟨B, 3, none⟩) hb _
      have e2 := e1.trans ((below_alloc (below_alloc (Below.refl (w.setCell ⟨B, 3, none⟩ (.bool true)).heap.size _) (.cells #[.int .i64 a, .int .i64 b] 27)) (.cells #[.int .i64 0, .int .i64 0] 27)).mono (by simp; omega))
      have e3 := e2.trans (HB1.out.mono (by simp; omega))
      exact (e3.setCell (p := ⟨w.heap.size + 1, 0, none⟩) (by simp; omega) _).setCell (p := ⟨w.heap.size + 1, 1, none⟩) (by simp; omega) _
    · (try rw [show (bad || !false) = true from by simp])
      exact ht.move (fun k hk => (Below.heap_setCell _ ⟨w.heap.size + 1, 1, none⟩ _ k (by simp; omega)).trans (Below.heap_setCell _ ⟨w.heap.size + 1, 0, none⟩ _ k (by simp; omega)))
    · have t1 : Touch w w1 B := ((Touch.set w B 3 (.bool true)).trans (Touch.of_below B (below_alloc (below_alloc (Below.refl _ _) _) _))).trans (Touch.of_below B HB1.out)
      refine ⟨by simpa using t1.1, fun k hk hne => ?_⟩
      exact (Below.heap_setCell _ ⟨w.heap.size + 1, 1, none⟩ _ k (by simp; omega)).trans ((Below.heap_setCell _ ⟨w.heap.size + 1, 0, none⟩ _ k (by simp; omega)).trans (t1.2 k hk hne))
theorem of_drawn {w w' : World} (h : Drawn0 w w') : Below w.heap.size w w' := by
  obtain ⟨n, rfl⟩ := h
  exact pw_below_drewN (Below.refl _ _) _
end Go.Proofs.Ytcklefgkbddlhaa.Tab
