/- What a call of told comes to. -/
import Derived.Test.YtcklefgkbddlhaaTabD
namespace Go.Proofs.Ytcklefgkbddlhaa.Tab
open Go.RowKit Go.Proofs.Ytcklefgkbddlhaa.P Go.Proofs.YtcklefgkbddlhaaW.PrintWords Go.Proofs.YtcklefgkbddlhaaW.PrintLast Go.Proofs.YtcklefgkbddlhaaW.PrintMore
set_option linter.unusedVariables false
set_option linter.unusedSimpArgs false

/-- What told returns. -/
def toldOf (d n : Int) (ws : List ByteArray) (vs : List S27) (bad : Bool) : Int × Int × List S89 × Int := if bad = true then (0, 0, [], 3) else (d, n, termsOf ws vs ws.length, 0)
set_option maxHeartbeats 8000000 in
set_option maxRecDepth 100000 in
theorem told (k : Nat) (d n : Int) (ws : List ByteArray) (hk : impl_allWords.f k d n = some ws) (h1 : 1 ≤ ws.length) (h2 : ws.length ≤ 1000) (base B g cap : Nat) (vs : List S27) (bad : Bool) (hl : vs.length = ws.length) (w : World) (h : Tab w base B g cap d n vs bad) :
    Calls Try.prog 75 #[.pointer (some ⟨B, 0, none⟩)] w fun e w' => ∃ v, e = .returned (.tuple #[.agg #[.int .i64 (toldOf d n ws vs bad).1, .int .i64 (toldOf d n ws vs bad).2.1, v], .int .i64 (toldOf d n ws vs bad).2.2.2]) ∧ Kd.R k89 89 w' w.heap.size (fun _ => True) v (toldOf d n ws vs bad).2.2.1 ∧ Below w.heap.size w w' := by
  have HT := Aside0.mk h
  have x3 := h.cells.2.2.2
  have hlt := h.ltB
  have HN3 := World.new_ne w _ x3
  have HK := Aside0.mk hk
  clear h hk
  cases bad with
  | true =>
    go_enter Try.func75, Try.ntmps75
    go_wp2
    refine bodyPost_ret (results_list (rs := [.cell 2 32, .tmp 3]) (vs := [.agg #[.int .i64 0, .int .i64 0, .slice none 0 0], .int .i64 3]) rfl (by decide) (.cell w.heap.size 32 #[.int .i64 0, .int .i64 0, .slice none 0 0] (0, 0) _ rfl ?_ Try.underlying32 rfl (by kernel_rfl) (.tmp .nil))) rfl ?_
    · exact blk_new _ _
    · exact ⟨_, rfl, Kd.R_nil _ _ _ _ _, below_alloc (Below.refl _ _) _⟩
  | false =>
    go_enter Try.func75, Try.ntmps75
    go_wp2_with (go_at_call 88; refine (series k d n ws HK.out h1 h2 base B g cap vs false hl _ (HT.out.below (below_alloc (Below.refl _ _) _))).mono ?_; rintro e w1 ⟨v, rfl, hv, hb⟩; obtain ⟨At, ct, rfl⟩ := Kd.R_slice hv; have hr := (hb.block w.heap.size (by simp)).trans (blk_new w _); have r0 : w1.cell? ⟨w.heap.size, 0, none⟩ = some (.int .i64 0) := (blk_cell hr 0).trans rfl; have r1 : w1.cell? ⟨w.heap.size, 1, none⟩ = some (.int .i64 0) := (blk_cell hr 1).trans rfl; have r2 : w1.cell? ⟨w.heap.size, 2, none⟩ = some (.slice none 0 0) := (blk_cell hr 2).trans rfl; have f0 := blk_frozen hr 0; have f1 := blk_frozen hr 1; have f2 := blk_frozen hr 2; have HR := Aside0.mk hr; have HV := Aside0.mk hv; have HB := Aside0.mk hb; clear hr hv hb)
    have q0 := HR.out
    have q1 := blk_put (cs' := #[.int .i64 d, .int .i64 0, .slice none 0 0]) q0 0 (.int .i64 d) rfl
    have q2 := blk_put (cs' := #[.int .i64 d, .int .i64 n, .slice none 0 0]) q1 1 (.int .i64 n) rfl
    refine bodyPost_ret (results_list (rs := [.cell 2 32, .tmp 3]) (vs := [.agg #[.int .i64 d, .int .i64 n, .slice At (termsOf ws vs ws.length).length ct], .int .i64 0]) rfl (show (2 : Nat) ≠ 1 from by decide) (.cell w.heap.size 32 #[.int .i64 d, .int .i64 n, .slice At (termsOf ws vs ws.length).length ct] (0, 0) _ rfl (blk_put q2 2 _ rfl) Try.underlying32 rfl (by kernel_rfl) (.tmp .nil))) rfl ?_
    have hB := below_step (below_alloc (Below.refl w.heap.size w) (.cells #[.int .i64 0, .int .i64 0, .slice none 0 0] 32)) HB.out
    exact ⟨_, rfl, Kd.R_set (Kd.R_set (Kd.R_set (Kd.R_lower HV.out (by simp)) q0 (by decide) 0 _) q1 (by decide) 1 _) q2 (by decide) 2 _, below_set (below_set (below_set hB (Nat.le_refl _)) (Nat.le_refl _)) (Nat.le_refl _)⟩
end Go.Proofs.Ytcklefgkbddlhaa.Tab
