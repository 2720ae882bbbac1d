/- What a call of SignatureOfWord comes to. -/
import Derived.Test.YtcklefgkbddlhaaPx9
import Derived.Test.YtcklefgkbddlhaaPx12
import Derived.Test.YtcklefgkbddlhaaTabE
import Derived.Test.YtcklefgkbddlhaaTabQ
namespace Go.Proofs.Ytcklefgkbddlhaa.Tab
open Go.RowKit Go.Proofs.Ytcklefgkbddlhaa.P Go.Proofs.YtcklefgkbddlhaaW.PrintWords Go.Proofs.YtcklefgkbddlhaaW.PrintLast Go.Proofs.YtcklefgkbddlhaaW.PrintMore
set_option linter.unusedVariables false
set_option linter.unusedSimpArgs false

/-- The signature of a group word, and the code. -/
def SignatureOfWord_f (k : Nat) (d n : Int) (l : List Int) : Option (Int × Int × List S89 × Int) :=
  (impl_IsGroupWord.f d l).bind fun b1 => if b1 = true then (impl_isLevel.f d n).bind fun b2 => if b2 = true then (impl_pathOfWord.f k d l).bind fun p => (impl_allWords.f k d n).bind fun ws =>
    if 0 ≤ n ∧ 1 ≤ ws.length ∧ ws.length ≤ 1000 ∧ n.toNat ≤ 1000 ∧ ∀ x ∈ ws, x.size ≤ 1000 then (sigL k d n.toNat ws p (unitV ws.length) false).bind fun r => if r.1.length = ws.length then some (toldOf d n ws r.1 r.2) else none else none
    else some (0, 0, [], 2) else some (0, 0, [], 2)
set_option maxHeartbeats 8000000 in
set_option maxRecDepth 100000 in
theorem SignatureOfWord_calls (k : Nat) (d n : Int) (A : Option Addr) (c : Nat) (l : List Int) (t1 t2 : Int) (t3 : List S89) (t4 : Int) (w : World) (hr : Kd.C (Kd.int .i64) w A l.length l) (hc : l.length ≤ c) (h : SignatureOfWord_f k d n l = some (t1, t2, t3, t4)) :
    Calls Try.prog 33 #[.int .i64 d, .int .i64 n, .slice A l.length c] w fun e w' => ∃ v2_ : Value, e = .returned (.tuple #[.agg #[.int .i64 t1, .int .i64 t2, v2_], .int .i64 t4]) ∧ Kd.R k89 89 w' w.heap.size (fun _ => True) v2_ t3 ∧ Below w.heap.size w w' := by
  have HR := Aside0.mk hr
  have HC := Aside0.mk hc
  clear hr hc
  unfold SignatureOfWord_f at h
  obtain ⟨b1, A1, h⟩ := Option.bind_eq_some_iff.mp h
  have A1 := Aside0.mk A1
  have B0 := Aside0.mk (below_alloc (Below.refl w.heap.size w) (.cells #[.int .i64 0, .int .i64 0, .slice none 0 0] 32))
  have R0 := Aside0.mk (blk_new w (.cells #[.int .i64 0, .int .i64 0, .slice none 0 0] 32))
  have r0 : (w.alloc (.cells #[.int .i64 0, .int .i64 0, .slice none 0 0] 32)).cell? ⟨w.heap.size, 0, none⟩ = some (.int .i64 0) := (blk_cell R0.out 0).trans rfl
  have r1 : (w.alloc (.cells #[.int .i64 0, .int .i64 0, .slice none 0 0] 32)).cell? ⟨w.heap.size, 1, none⟩ = some (.int .i64 0) := (blk_cell R0.out 1).trans rfl
  have r2 : (w.alloc (.cells #[.int .i64 0, .int .i64 0, .slice none 0 0] 32)).cell? ⟨w.heap.size, 2, none⟩ = some (.slice none 0 0) := (blk_cell R0.out 2).trans rfl
  have f0 := blk_frozen R0.out 0
  have f1 := blk_frozen R0.out 1
  have f2 := blk_frozen R0.out 2
  cases b1 with
  | false =>
    rw [if_neg (by simp)] at h
    cases h
    go_enter Try.func33, Try.ntmps33
    go_wp2_with (first | (go_at_call 71; refine (impl_IsGroupWord.calls d A c l false _ (Kd.C_below HR.out B0.out) HC.out A1.out).mono ?_; rintro e1 w1 ⟨rfl, hb⟩; have R1 := Aside0.mk ((hb.block w.heap.size (blk_lt R0.out)).trans R0.out); have B1 := Aside0.mk (below_step B0.out hb); clear hb r0 r1 r2 f0 f1 f2; have r0 : w1.cell? ⟨w.heap.size, 0, none⟩ = some (.int .i64 0) := (blk_cell R1.out 0).trans rfl; have r1 : w1.cell? ⟨w.heap.size, 1, none⟩ = some (.int .i64 0) := (blk_cell R1.out 1).trans rfl; have r2 : w1.cell? ⟨w.heap.size, 2, none⟩ = some (.slice none 0 0) := (blk_cell R1.out 2).trans rfl; have f0 := blk_frozen R1.out 0; have f1 := blk_frozen R1.out 1; have f2 := blk_frozen R1.out 2))
    have q0 := R1.out
    have q1 := blk_put (cs' := #[.int .i64 0, .int .i64 0, .slice none 0 0]) q0 0 (.int .i64 0) rfl
    have q2 := blk_put (cs' := #[.int .i64 0, .int .i64 0, .slice none 0 0]) q1 1 (.int .i64 0) rfl
    refine bodyPost_ret (results_list (rs := [.cell 6 32, .tmp 7]) (vs := [.agg #[.int .i64 0, .int .i64 0, .slice none 0 0], .int .i64 2]) rfl (show (2 : Nat) ≠ 1 from by decide) (.cell w.heap.size 32 #[.int .i64 0, .int .i64 0, .slice none 0 0] (0, 0) _ rfl (blk_put q2 2 _ rfl) Try.underlying32 rfl (by kernel_rfl) (.tmp .nil))) rfl ?_
    exact ⟨_, rfl, Kd.R_nil _ _ _ _ _, below_set (below_set (below_set B1.out (by omega)) (by omega)) (by omega)⟩
  | true =>
    rw [if_pos rfl] at h
    obtain ⟨b2, A2, h⟩ := Option.bind_eq_some_iff.mp h
    have A2 := Aside0.mk A2
    cases b2 with
    | false =>
      rw [if_neg (by simp)] at h
      cases h
      go_enter Try.func33, Try.ntmps33
      go_wp2_with (first | (go_at_call 71; refine (impl_IsGroupWord.calls d A c l true _ (Kd.C_below HR.out B0.out) HC.out A1.out).mono ?_; rintro e1 w1 ⟨rfl, hb⟩; have R1 := Aside0.mk ((hb.block w.heap.size (blk_lt R0.out)).trans R0.out); have B1 := Aside0.mk (below_step B0.out hb); clear hb r0 r1 r2 f0 f1 f2; have r0 : w1.cell? ⟨w.heap.size, 0, none⟩ = some (.int .i64 0) := (blk_cell R1.out 0).trans rfl; have r1 : w1.cell? ⟨w.heap.size, 1, none⟩ = some (.int .i64 0) := (blk_cell R1.out 1).trans rfl; have r2 : w1.cell? ⟨w.heap.size, 2, none⟩ = some (.slice none 0 0) := (blk_cell R1.out 2).trans rfl; have f0 := blk_frozen R1.out 0; have f1 := blk_frozen R1.out 1; have f2 := blk_frozen R1.out 2) | (go_at_call 72; refine (impl_isLevel.calls d n false _ A2.out).mono ?_; rintro e2 w2 ⟨rfl, hd⟩; have hb := of_drawn hd; have R2 := Aside0.mk ((hb.block w.heap.size (blk_lt R1.out)).trans R1.out); have B2 := Aside0.mk (below_step B1.out hb); clear hb r0 r1 r2 f0 f1 f2; have r0 : w2.cell? ⟨w.heap.size, 0, none⟩ = some (.int .i64 0) := (blk_cell R2.out 0).trans rfl; have r1 : w2.cell? ⟨w.heap.size, 1, none⟩ = some (.int .i64 0) := (blk_cell R2.out 1).trans rfl; have r2 : w2.cell? ⟨w.heap.size, 2, none⟩ = some (.slice none 0 0) := (blk_cell R2.out 2).trans rfl; have f0 := blk_frozen R2.out 0; have f1 := blk_frozen R2.out 1; have f2 := blk_frozen R2.out 2))
      have q0 := R2.out
      have q1 := blk_put (cs' := #[.int .i64 0, .int .i64 0, .slice none 0 0]) q0 0 (.int .i64 0) rfl
      have q2 := blk_put (cs' := #[.int .i64 0, .int .i64 0, .slice none 0 0]) q1 1 (.int .i64 0) rfl
      refine bodyPost_ret (results_list (rs := [.cell 6 32, .tmp 7]) (vs := [.agg #[.int .i64 0, .int .i64 0, .slice none 0 0], .int .i64 2]) rfl (show (2 : Nat) ≠ 1 from by decide) (.cell w.heap.size 32 #[.int .i64 0, .int .i64 0, .slice none 0 0] (0, 0) _ rfl (blk_put q2 2 _ rfl) Try.underlying32 rfl (by kernel_rfl) (.tmp .nil))) rfl ?_
      exact ⟨_, rfl, Kd.R_nil _ _ _ _ _, below_set (below_set (below_set B2.out (by omega)) (by omega)) (by omega)⟩
    | true =>
      rw [if_pos rfl] at h
      obtain ⟨p, A3, h⟩ := Option.bind_eq_some_iff.mp h
      have A3 := Aside0.mk A3
      obtain ⟨ws, A4, h⟩ := Option.bind_eq_some_iff.mp h
      by_cases hws : 0 ≤ n ∧ 1 ≤ ws.length ∧ ws.length ≤ 1000 ∧ n.toNat ≤ 1000 ∧ ∀ x ∈ ws, x.size ≤ 1000
      · rw [if_pos hws] at h
        obtain ⟨N, rfl⟩ := Int.eq_ofNat_of_zero_le hws.1
        have hws := hws.2
        rw [Int.toNat_natCast] at h hws
        have A4 := Aside0.mk A4
        obtain ⟨⟨vs, bad⟩, A5, h⟩ := Option.bind_eq_some_iff.mp h
        have A5 := Aside0.mk A5
        by_cases hvl : vs.length = ws.length
        · rw [if_pos hvl] at h
          have HTO := Aside0.mk (Option.some.inj h)
          clear h
          go_enter Try.func33, Try.ntmps33
          go_wp2_with (first | (go_at_call 71; refine (impl_IsGroupWord.calls d A c l true _ (Kd.C_below HR.out B0.out) HC.out A1.out).mono ?_; rintro e1 w1 ⟨rfl, hb⟩; have R1 := Aside0.mk ((hb.block w.heap.size (blk_lt R0.out)).trans R0.out); have B1 := Aside0.mk (below_step B0.out hb); clear hb r0 r1 r2 f0 f1 f2; have r0 : w1.cell? ⟨w.heap.size, 0, none⟩ = some (.int .i64 0) := (blk_cell R1.out 0).trans rfl; have r1 : w1.cell? ⟨w.heap.size, 1, none⟩ = some (.int .i64 0) := (blk_cell R1.out 1).trans rfl; have r2 : w1.cell? ⟨w.heap.size, 2, none⟩ = some (.slice none 0 0) := (blk_cell R1.out 2).trans rfl; have f0 := blk_frozen R1.out 0; have f1 := blk_frozen R1.out 1; have f2 := blk_frozen R1.out 2) | (go_at_call 72; refine (impl_isLevel.calls d (N : Int) true _ A2.out).mono ?_; rintro e2 w2 ⟨rfl, hd⟩; have hb := of_drawn hd; have R2 := Aside0.mk ((hb.block w.heap.size (blk_lt R1.out)).trans R1.out); have B2 := Aside0.mk (below_step B1.out hb); clear hb r0 r1 r2 f0 f1 f2; have r0 : w2.cell? ⟨w.heap.size, 0, none⟩ = some (.int .i64 0) := (blk_cell R2.out 0).trans rfl; have r1 : w2.cell? ⟨w.heap.size, 1, none⟩ = some (.int .i64 0) := (blk_cell R2.out 1).trans rfl; have r2 : w2.cell? ⟨w.heap.size, 2, none⟩ = some (.slice none 0 0) := (blk_cell R2.out 2).trans rfl; have f0 := blk_frozen R2.out 0; have f1 := blk_frozen R2.out 1; have f2 := blk_frozen R2.out 2) | (go_at_call 74; refine (impl_pathOfWord.calls k d A c l p _ (Kd.C_below HR.out B2.out) HC.out A3.out).mono ?_; rintro e3 w3 ⟨v0, rfl, hv0, hb⟩; obtain ⟨Ap, cp, rfl, hpc, hpp⟩ := Kd.S_reads hv0; have HP := Aside0.mk hpp; clear hv0 hpc hpp; have R3 := Aside0.mk ((hb.block w.heap.size (blk_lt R2.out)).trans R2.out); have B3 := Aside0.mk (below_step B2.out hb); clear hb r0 r1 r2 f0 f1 f2; have r0 : w3.cell? ⟨w.heap.size, 0, none⟩ = some (.int .i64 0) := (blk_cell R3.out 0).trans rfl; have r1 : w3.cell? ⟨w.heap.size, 1, none⟩ = some (.int .i64 0) := (blk_cell R3.out 1).trans rfl; have r2 : w3.cell? ⟨w.heap.size, 2, none⟩ = some (.slice none 0 0) := (blk_cell R3.out 2).trans rfl; have f0 := blk_frozen R3.out 0; have f1 := blk_frozen R3.out 1; have f2 := blk_frozen R3.out 2) | (go_at_call 73; refine (signature k d N hws.2.2.1 ws A4.out hws.1 hws.2.1 hws.2.2.2 Ap cp p (vs, bad) A5.out _ HP.out).mono ?_; rintro e4 w4 ⟨B, g, cap, rfl, ht, hb⟩; have HT4 := Aside0.mk (show Tab w4 w3.heap.size B g cap d (N : Int) vs bad from ht); clear ht; have R4 := Aside0.mk ((hb.block w.heap.size (blk_lt R3.out)).trans R3.out); have B4 := Aside0.mk (below_step B3.out hb); clear hb r0 r1 r2 f0 f1 f2; have r0 : w4.cell? ⟨w.heap.size, 0, none⟩ = some (.int .i64 0) := (blk_cell R4.out 0).trans rfl; have r1 : w4.cell? ⟨w.heap.size, 1, none⟩ = some (.int .i64 0) := (blk_cell R4.out 1).trans rfl; have r2 : w4.cell? ⟨w.heap.size, 2, none⟩ = some (.slice none 0 0) := (blk_cell R4.out 2).trans rfl; have f0 := blk_frozen R4.out 0; have f1 := blk_frozen R4.out 1; have f2 := blk_frozen R4.out 2) | (go_at_call 75; refine (told k d (N : Int) ws A4.out hws.1 hws.2.1 _ B g cap vs bad hvl _ HT4.out).mono ?_; rw [HTO.out]; rintro e5 w5 ⟨v, rfl, hv, hb⟩; obtain ⟨At, ct, rfl⟩ := Kd.R_slice hv; have HV := Aside0.mk hv; clear hv; have R5 := Aside0.mk ((hb.block w.heap.size (blk_lt R4.out)).trans R4.out); have B5 := Aside0.mk (below_step B4.out hb); clear hb r0 r1 r2 f0 f1 f2; have r0 : w5.cell? ⟨w.heap.size, 0, none⟩ = some (.int .i64 0) := (blk_cell R5.out 0).trans rfl; have r1 : w5.cell? ⟨w.heap.size, 1, none⟩ = some (.int .i64 0) := (blk_cell R5.out 1).trans rfl; have r2 : w5.cell? ⟨w.heap.size, 2, none⟩ = some (.slice none 0 0) := (blk_cell R5.out 2).trans rfl; have f0 := blk_frozen R5.out 0; have f1 := blk_frozen R5.out 1; have f2 := blk_frozen R5.out 2))
          have hsz4 : w.heap.size ≤ w4.heap.size := below_size B4.out
          have q0 := R5.out
          have q1 := blk_put (cs' := #[.int .i64 t1, .int .i64 0, .slice none 0 0]) q0 0 (.int .i64 t1) rfl
          have q2 := blk_put (cs' := #[.int .i64 t1, .int .i64 t2, .slice none 0 0]) q1 1 (.int .i64 t2) rfl
          refine bodyPost_ret (results_list (rs := [.cell 6 32, .tmp 7]) (vs := [.agg #[.int .i64 t1, .int .i64 t2, .slice At t3.length ct], .int .i64 t4]) rfl (show (2 : Nat) ≠ 1 from by decide) (.cell w.heap.size 32 #[.int .i64 t1, .int .i64 t2, .slice At t3.length ct] (0, 0) _ rfl (blk_put q2 2 _ rfl) Try.underlying32 rfl (by kernel_rfl) (.tmp .nil))) rfl ?_
          exact ⟨_, rfl, Kd.R_set (Kd.R_set (Kd.R_set (Kd.R_lower HV.out hsz4) q0 (by decide) 0 _) q1 (by decide) 1 _) q2 (by decide) 2 _, below_set (below_set (below_set B5.out (by omega)) (by omega)) (by omega)⟩
        · rw [if_neg hvl] at h
          exact absurd h (by simp)
      · rw [if_neg hws] at h
        exact absurd h (by simp)
end Go.Proofs.Ytcklefgkbddlhaa.Tab
