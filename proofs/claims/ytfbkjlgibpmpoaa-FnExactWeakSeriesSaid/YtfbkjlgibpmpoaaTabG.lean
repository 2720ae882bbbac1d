/- The strict and the weak series: what calls of them come to. -/
import Derived.Test.YtfbkjlgibpmpoaaTabF
namespace Go.Proofs.Ytfbkjlgibpmpoaa.Tab
open Go.RowKit Go.Proofs.Ytfbkjlgibpmpoaa.P Go.Proofs.YtfbkjlgibpmpoaaW.PrintWords Go.Proofs.YtfbkjlgibpmpoaaW.PrintLast Go.Proofs.YtfbkjlgibpmpoaaW.PrintMore
set_option linter.unusedVariables false
set_option linter.unusedSimpArgs false

set_option maxHeartbeats 4000000 in
set_option maxRecDepth 100000 in
theorem sums_no (d n c : Int) (A0 : Option Addr) (c0 : Nat) (l : List (List Int)) (weak : Bool) (w : World)
    (hr : Kd.C (Kd.slice 2 (Kd.int .i64)) w A0 l.length l) (hc : l.length ≤ c0) (hp : impl_pathCode.f d n l = some c) (hne : c ≠ 0) :
    Calls Try.prog 74 #[.int .i64 d, .int .i64 n, .slice A0 l.length c0, .bool weak] w fun e w' => ∃ v, e = .returned (.tuple #[.agg #[.int .i64 0, .int .i64 0, v], .int .i64 c]) ∧ Kd.R k99 99 w' w.heap.size (fun _ => True) v [] ∧ Below w.heap.size w w' := by
  have HR := Aside0.mk hr
  have HC := Aside0.mk hc
  have HP := Aside0.mk hp
  have hne1 : (c != 0) = true := by simpa using hne
  clear hr hc hp hne
  have B0 := Aside0.mk (below_alloc (Below.refl w.heap.size w) (.cells #[.int .i64 0, .int .i64 0, .slice none 0 0] 24))
  have R0 := Aside0.mk (blk_new w (.cells #[.int .i64 0, .int .i64 0, .slice none 0 0] 24))
  go_enter Try.func74, Try.ntmps74
  go_wp2_with (go_at_call 119; refine (impl_pathCode.calls d n A0 c0 l c _ (Kd.C_below HR.out B0.out) HC.out HP.out).mono ?_; rintro e w1 ⟨rfl, hb⟩; have hr := (hb.block w.heap.size (by simp)).trans R0.out; have r0 : w1.cell? ⟨w.heap.size, 0, none⟩ = some (.int .i64 0) := (blk_cell hr 0).trans rfl; have r1 : w1.cell? ⟨w.heap.size, 1, none⟩ = some (.int .i64 0) := (blk_cell hr 1).trans rfl; have r2 : w1.cell? ⟨w.heap.size, 2, none⟩ = some (.slice none 0 0) := (blk_cell hr 2).trans rfl; have f0 := blk_frozen hr 0; have f1 := blk_frozen hr 1; have f2 := blk_frozen hr 2; have HRR := Aside0.mk hr; have B1 := Aside0.mk (below_step B0.out hb); clear hb hr R0 B0)
  have q0 := HRR.out
  have q1 := blk_put (cs' := #[.int .i64 0, .int .i64 0, .slice none 0 0]) q0 0 (.int .i64 0) rfl
  have q2 := blk_put (cs' := #[.int .i64 0, .int .i64 0, .slice none 0 0]) q1 1 (.int .i64 0) rfl
  refine bodyPost_ret (results_list (rs := [.cell 8 24, .tmp 9]) (vs := [.agg #[.int .i64 0, .int .i64 0, .slice none 0 0], .int .i64 c]) rfl (show (2 : Nat) ≠ 1 from by decide) (.cell w.heap.size 24 #[.int .i64 0, .int .i64 0, .slice none 0 0] (0, 0) _ rfl (blk_put q2 2 _ rfl) Try.underlying24 rfl (by kernel_rfl) (.tmp .nil))) rfl ?_
  exact ⟨_, rfl, Kd.R_nil _ _ _ _ _, below_set (below_set (below_set B1.out (Nat.le_refl _)) (Nat.le_refl _)) (Nat.le_refl _)⟩
/-- What the program's series of sums is. -/
structure Sums (k : Nat) (d n : Int) (l : List (List Int)) (weak : Bool) (r : Int × Int × List S99 × Int) : Prop where
  told : ∃ c, impl_pathCode.f d n l = some c ∧ ((c ≠ 0 ∧ r = (0, 0, [], c)) ∨ (c = 0 ∧ ∃ (ws : List ByteArray) (sa : Nat → Int) (ok : Nat → Bool), impl_allWords.f k d n = some ws ∧ 1 ≤ ws.length ∧ ws.length ≤ 1000 ∧
    (∀ i : Nat, i < ws.length → impl_sumAt.f k l (rdOf ByteArray.empty ws (i : Int)) weak = some (sa i)) ∧ (∀ i : Nat, i < ws.length → impl_IsFraction.f k (sa i) 1 = some (ok i)) ∧
    r = toldOf d n ws (fillS sa ok ws.length ws.length).1 (fillS sa ok ws.length ws.length).2))
theorem sums (k : Nat) (d n : Int) (A0 : Option Addr) (c0 : Nat) (l : List (List Int)) (weak : Bool) (w : World) (t1 t2 t4 : Int) (t3 : List S99)
    (hr : Kd.C (Kd.slice 2 (Kd.int .i64)) w A0 l.length l) (hc : l.length ≤ c0) (h : Sums k d n l weak (t1, t2, t3, t4)) :
    Calls Try.prog 74 #[.int .i64 d, .int .i64 n, .slice A0 l.length c0, .bool weak] w fun e w' => ∃ v, e = .returned (.tuple #[.agg #[.int .i64 t1, .int .i64 t2, v], .int .i64 t4]) ∧ Kd.R k99 99 w' w.heap.size (fun _ => True) v t3 ∧ Below w.heap.size w w' := by
  obtain ⟨c, hp, ⟨hne, e⟩ | ⟨rfl, ws, sa, ok, hk, h1, h2, hsa, hok, e⟩⟩ := h.told
  · cases e
    exact sums_no d n _ A0 c0 l weak w hr hc hp hne
  · have := sums_yes k d n ws hk h1 h2 A0 c0 l weak w hr hc hp sa ok hsa hok
    rw [← e] at this
    exact this
set_option maxHeartbeats 4000000 in
set_option maxRecDepth 100000 in
theorem strict (k : Nat) (d n : Int) (A0 : Option Addr) (c0 : Nat) (l : List (List Int)) (w : World) (t1 t2 t4 : Int) (t3 : List S99)
    (hr : Kd.C (Kd.slice 2 (Kd.int .i64)) w A0 l.length l) (hc : l.length ≤ c0) (h : Sums k d n l false (t1, t2, t3, t4)) :
    Calls Try.prog 30 #[.int .i64 d, .int .i64 n, .slice A0 l.length c0] w fun e w' => ∃ v, e = .returned (.tuple #[.agg #[.int .i64 t1, .int .i64 t2, v], .int .i64 t4]) ∧ Kd.R k99 99 w' w.heap.size (fun _ => True) v t3 ∧ Below w.heap.size w w' := by
  have HR := Aside0.mk hr
  have HC := Aside0.mk hc
  have H := Aside0.mk h
  clear hr hc h
  have B0 := Aside0.mk (below_alloc (Below.refl w.heap.size w) (.cells #[.int .i64 0, .int .i64 0, .slice none 0 0] 24))
  have R0 := Aside0.mk (blk_new w (.cells #[.int .i64 0, .int .i64 0, .slice none 0 0] 24))
  go_enter Try.func30, Try.ntmps30
  go_wp2_with (go_at_call 74; refine (sums k d n A0 c0 l false _ t1 t2 t4 t3 (Kd.C_below HR.out B0.out) HC.out H.out).mono ?_; rintro e w1 ⟨v, rfl, hv, hb⟩; obtain ⟨At, ct, rfl⟩ := Kd.R_slice hv; have hr := (hb.block w.heap.size (by simp)).trans R0.out; have r0 : w1.cell? ⟨w.heap.size, 0, none⟩ = some (.int .i64 0) := (blk_cell hr 0).trans rfl; have r1 : w1.cell? ⟨w.heap.size, 1, none⟩ = some (.int .i64 0) := (blk_cell hr 1).trans rfl; have r2 : w1.cell? ⟨w.heap.size, 2, none⟩ = some (.slice none 0 0) := (blk_cell hr 2).trans rfl; have f0 := blk_frozen hr 0; have f1 := blk_frozen hr 1; have f2 := blk_frozen hr 2; have HRR := Aside0.mk hr; have HV := Aside0.mk hv; have B1 := Aside0.mk (below_step B0.out hb); clear hb hr hv R0 B0)
  have q0 := HRR.out
  have q1 := blk_put (cs' := #[.int .i64 t1, .int .i64 0, .slice none 0 0]) q0 0 (.int .i64 t1) rfl
  have q2 := blk_put (cs' := #[.int .i64 t1, .int .i64 t2, .slice none 0 0]) q1 1 (.int .i64 t2) rfl
  refine bodyPost_ret (results_list (rs := [.cell 6 24, .tmp 7]) (vs := [.agg #[.int .i64 t1, .int .i64 t2, .slice At t3.length ct], .int .i64 t4]) rfl (show (2 : Nat) ≠ 1 from by decide) (.cell w.heap.size 24 #[.int .i64 t1, .int .i64 t2, .slice At t3.length ct] (0, 0) _ rfl (blk_put q2 2 _ rfl) Try.underlying24 rfl (by kernel_rfl) (.tmp .nil))) rfl ?_
  exact ⟨_, rfl, Kd.R_set (Kd.R_set (Kd.R_set (Kd.R_lower HV.out (by simp)) q0 (by decide) 0 _) q1 (by decide) 1 _) q2 (by decide) 2 _, below_set (below_set (below_set B1.out (Nat.le_refl _)) (Nat.le_refl _)) (Nat.le_refl _)⟩
set_option maxHeartbeats 4000000 in
set_option maxRecDepth 100000 in
theorem weakS (k : Nat) (d n : Int) (A0 : Option Addr) (c0 : Nat) (l : List (List Int)) (w : World) (t1 t2 t4 : Int) (t3 : List S99)
    (hr : Kd.C (Kd.slice 2 (Kd.int .i64)) w A0 l.length l) (hc : l.length ≤ c0) (h : Sums k d n l true (t1, t2, t3, t4)) :
    Calls Try.prog 37 #[.int .i64 d, .int .i64 n, .slice A0 l.length c0] w fun e w' => ∃ v, e = .returned (.tuple #[.agg #[.int .i64 t1, .int .i64 t2, v], .int .i64 t4]) ∧ Kd.R k99 99 w' w.heap.size (fun _ => True) v t3 ∧ Below w.heap.size w w' := by
  have HR := Aside0.mk hr
  have HC := Aside0.mk hc
  have H := Aside0.mk h
  clear hr hc h
  have B0 := Aside0.mk (below_alloc (Below.refl w.heap.size w) (.cells #[.int .i64 0, .int .i64 0, .slice none 0 0] 24))
  have R0 := Aside0.mk (blk_new w (.cells #[.int .i64 0, .int .i64 0, .slice none 0 0] 24))
  go_enter Try.func37, Try.ntmps37
  go_wp2_with (go_at_call 74; refine (sums k d n A0 c0 l true _ t1 t2 t4 t3 (Kd.C_below HR.out B0.out) HC.out H.out).mono ?_; rintro e w1 ⟨v, rfl, hv, hb⟩; obtain ⟨At, ct, rfl⟩ := Kd.R_slice hv; have hr := (hb.block w.heap.size (by simp)).trans R0.out; have r0 : w1.cell? ⟨w.heap.size, 0, none⟩ = some (.int .i64 0) := (blk_cell hr 0).trans rfl; have r1 : w1.cell? ⟨w.heap.size, 1, none⟩ = some (.int .i64 0) := (blk_cell hr 1).trans rfl; have r2 : w1.cell? ⟨w.heap.size, 2, none⟩ = some (.slice none 0 0) := (blk_cell hr 2).trans rfl; have f0 := blk_frozen hr 0; have f1 := blk_frozen hr 1; have f2 := blk_frozen hr 2; have HRR := Aside0.mk hr; have HV := Aside0.mk hv; have B1 := Aside0.mk (below_step B0.out hb); clear hb hr hv R0 B0)
  have q0 := HRR.out
  have q1 := blk_put (cs' := #[.int .i64 t1, .int .i64 0, .slice none 0 0]) q0 0 (.int .i64 t1) rfl
  have q2 := blk_put (cs' := #[.int .i64 t1, .int .i64 t2, .slice none 0 0]) q1 1 (.int .i64 t2) rfl
  refine bodyPost_ret (results_list (rs := [.cell 6 24, .tmp 7]) (vs := [.agg #[.int .i64 t1, .int .i64 t2, .slice At t3.length ct], .int .i64 t4]) rfl (show (2 : Nat) ≠ 1 from by decide) (.cell w.heap.size 24 #[.int .i64 t1, .int .i64 t2, .slice At t3.length ct] (0, 0) _ rfl (blk_put q2 2 _ rfl) Try.underlying24 rfl (by kernel_rfl) (.tmp .nil))) rfl ?_
  exact ⟨_, rfl, Kd.R_set (Kd.R_set (Kd.R_set (Kd.R_lower HV.out (by simp)) q0 (by decide) 0 _) q1 (by decide) 1 _) q2 (by decide) 2 _, below_set (below_set (below_set B1.out (Nat.le_refl _)) (Nat.le_refl _)) (Nat.le_refl _)⟩
end Go.Proofs.Ytfbkjlgibpmpoaa.Tab
