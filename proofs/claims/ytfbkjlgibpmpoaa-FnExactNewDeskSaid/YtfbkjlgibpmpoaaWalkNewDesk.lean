/- laws.FnExactNewDesk: it returns true, and what was there before lies as it lay. -/
import Derived.Test.YtfbkjlgibpmpoaaPx1
import Derived.Test.YtfbkjlgibpmpoaaPx3
import Derived.Test.YtfbkjlgibpmpoaaPx5
namespace Go.Proofs.Ytfbkjlgibpmpoaa.Nest
open Go.RowKit Go.Proofs.Ytfbkjlgibpmpoaa.P Go.Proofs.YtfbkjlgibpmpoaaW.PrintWords Go.Proofs.YtfbkjlgibpmpoaaW.PrintLast Go.Proofs.YtfbkjlgibpmpoaaW.PrintMore
set_option linter.unusedVariables false
set_option linter.unusedSimpArgs false

set_option maxHeartbeats 4000000 in
theorem markTermS_none (A : Option Addr) (c : Nat) (m : Int) (w : World) :
    Calls Try.prog 76 #[.slice A 0 c, .int .i64 m] w fun e w' => e = .returned (.int .i64 m) ∧ Below w.heap.size w w' := by
  go_enter Try.func76, Try.ntmps76
  go_wp2
  go_loopg [1, 5] 0 (fun gg s1 s5 wr => s1 = .int .i64 m ∧ s5 = .int .i64 0 ∧ Aside0 (Below w.heap.size w wr))
  case atStart => exact ⟨rfl, rfl, ⟨by repeat (first | exact Below.refl _ _ | apply below_alloc | apply pw_below_drewN)⟩⟩
  case round =>
    obtain ⟨rfl, rfl, HB⟩ := hrel
    go_wp2
    go_ret
    exact ⟨rfl, HB.out⟩
set_option maxHeartbeats 4000000 in
theorem markInt64SS_none (A : Option Addr) (c : Nat) (m : Int) (w : World) :
    Calls Try.prog 33 #[.slice A 0 c, .int .i64 m] w fun e w' => e = .returned (.int .i64 m) ∧ Below w.heap.size w w' := by
  go_enter Try.func33, Try.ntmps33
  go_wp2
  go_loopg [1, 5] 0 (fun gg s1 s5 wr => s1 = .int .i64 m ∧ s5 = .int .i64 0 ∧ Aside0 (Below w.heap.size w wr))
  case atStart => exact ⟨rfl, rfl, ⟨by repeat (first | exact Below.refl _ _ | apply below_alloc | apply pw_below_drewN)⟩⟩
  case round =>
    obtain ⟨rfl, rfl, HB⟩ := hrel
    go_wp2
    go_ret
    exact ⟨rfl, HB.out⟩
set_option maxHeartbeats 4000000 in
theorem markSeries_none (a b : Int) (A : Option Addr) (c : Nat) (m : Int) (w : World) :
    Calls Try.prog 34 #[.agg #[.int .i64 a, .int .i64 b, .slice A 0 c], .int .i64 m] w fun e w' => e = .returned (.int .i64 m) ∧ Below w.heap.size w w' := by
  have HB := Aside0.mk (Below.refl w.heap.size w)
  go_enter Try.func34, Try.ntmps34
  go_wp2_with (go_at_call 76; refine (markTermS_none A c m _).mono ?_; rintro e w1 ⟨rfl, hb⟩; have HB1 := Aside0.mk (below_step (by repeat (first | (with_reducible first | exact HB.out | apply below_alloc | apply pw_below_drewN | apply below_drew1) | exact HB.out)) hb); clear hb)
  go_ret
  exact ⟨rfl, HB1.out⟩
set_option maxHeartbeats 4000000 in
theorem markDesk_none (a b : Int) (A : Option Addr) (c : Nat) (a' b' : Int) (A' : Option Addr) (c' : Nat) (A2 : Option Addr) (c2 : Nat) (m : Int) (w : World) :
    Calls Try.prog 14 #[.agg #[.int .i64 a, .int .i64 b, .slice A 0 c, .int .i64 a', .int .i64 b', .slice A' 0 c', .slice A2 0 c2], .int .i64 m] w fun e w' => e = .returned (.int .i64 m) ∧ Below w.heap.size w w' := by
  have HB := Aside0.mk (Below.refl w.heap.size w)
  go_enter Try.func14, Try.ntmps14
  go_wp2_with fail
  refine (markSeries_none a b A c m _).mono ?_
  rintro e w1 ⟨rfl, hb⟩
  have x3 : w1.cell? ⟨w.heap.size, 3, none⟩ = some (.int .i64 a') := pw_cell_below hb (by simp)
  have x4 : w1.cell? ⟨w.heap.size, 4, none⟩ = some (.int .i64 b') := pw_cell_below hb (by simp)
  have x5 : w1.cell? ⟨w.heap.size, 5, none⟩ = some (.slice A' 0 c') := pw_cell_below hb (by simp)
  have x6 : w1.cell? ⟨w.heap.size, 6, none⟩ = some (.slice A2 0 c2) := pw_cell_below hb (by simp)
  have B1 := Aside0.mk (below_step (by repeat (first | (with_reducible first | exact HB.out | apply below_alloc | apply pw_below_drewN | apply below_drew1) | exact HB.out)) hb)
  clear hb
  go_wp2_with fail
  refine (markSeries_none a' b' A' c' m _).mono ?_
  rintro e w2 ⟨rfl, hb⟩
  have y6 : w2.cell? ⟨w.heap.size, 6, none⟩ = some (.slice A2 0 c2) := pw_cell_below hb x6
  have B2 := Aside0.mk (below_step B1.out hb)
  clear hb x3 x4 x5 x6
  go_wp2_with fail
  refine (markInt64SS_none A2 c2 m _).mono ?_
  rintro e w3 ⟨rfl, hb⟩
  have B3 := Aside0.mk (below_step B2.out hb)
  clear hb
  go_wp2
  go_ret
  exact ⟨rfl, B3.out⟩
theorem C_none {α : Type} (d : Kd α) (w : World) (A : Option Addr) : d.C w A ([] : List α).length [] := ⟨rfl, by simp, fun h => absurd h (by simp)⟩
set_option maxHeartbeats 16000000 in
set_option maxRecDepth 100000 in
theorem walk_desk (w : World) :
    Calls Try.prog 3 #[] w fun e w' => e = .returned (.bool true) ∧ Below w.heap.size w w' := by
  have HE := Aside0.mk (show laws_eqDesk.f 10 2 2 [] 2 2 [] [] 2 2 [] 2 2 [] [] = some true from by rfl)
  have HH := Aside0.mk (show laws_heldDesk.f 10 2 2 [] 2 2 [] [] 1 = some 1 from by rfl)
  have HS := Aside0.mk (show spec_NewDesk.f = some (2, 2, [], 2, 2, [], []) from by rfl)
  have HI := Aside0.mk (show impl_NewDesk.f = some (2, 2, [], 2, 2, [], []) from by rfl)
  have B := Aside0.mk (Below.refl w.heap.size w)
  go_enter Try.func3, Try.ntmps3
  go_wp2_with fail
  refine (spec_NewDesk.calls 2 2 [] 2 2 [] [] _ HS.out).mono ?_
  rintro e w1 ⟨u2, u5, u6, rfl, r2, r5, r6, hb⟩
  replace B := Aside0.mk (below_step (by repeat (first | (with_reducible first | exact B.out | apply below_alloc | apply pw_below_drewN | apply below_drew1) | exact B.out)) hb)
  clear hb
  obtain ⟨sa, sk, rfl⟩ := Kd.R_slice r2
  obtain ⟨sb, sl, rfl⟩ := Kd.R_slice r5
  obtain ⟨sc, sm, rfl⟩ := Kd.S_slice r6
  clear r2 r5 r6
  go_wp2_with fail
  refine (impl_NewDesk.calls 2 2 [] 2 2 [] [] _ HI.out).mono ?_
  rintro e w2 ⟨u2, u5, u6, rfl, r2, r5, r6, hb⟩
  have xS0 : w2.cell? ⟨w1.heap.size, 0, none⟩ = some (.int .i64 2) := pw_cell_below hb (by simp)
  have xS1 : w2.cell? ⟨w1.heap.size, 1, none⟩ = some (.int .i64 2) := pw_cell_below hb (by simp)
  have xS2 : w2.cell? ⟨w1.heap.size, 2, none⟩ = some (.slice sa 0 sk) := pw_cell_below hb (by simp)
  have xS3 : w2.cell? ⟨w1.heap.size, 3, none⟩ = some (.int .i64 2) := pw_cell_below hb (by simp)
  have xS4 : w2.cell? ⟨w1.heap.size, 4, none⟩ = some (.int .i64 2) := pw_cell_below hb (by simp)
  have xS5 : w2.cell? ⟨w1.heap.size, 5, none⟩ = some (.slice sb 0 sl) := pw_cell_below hb (by simp)
  have xS6 : w2.cell? ⟨w1.heap.size, 6, none⟩ = some (.slice sc 0 sm) := pw_cell_below hb (by simp)
  replace B := Aside0.mk (below_step (by repeat (first | (with_reducible first | exact B.out | apply below_alloc | apply pw_below_drewN | apply below_drew1) | exact B.out)) hb)
  clear hb
  obtain ⟨ga, gk, rfl⟩ := Kd.R_slice r2
  obtain ⟨gb, gl, rfl⟩ := Kd.R_slice r5
  obtain ⟨gc, gm, rfl⟩ := Kd.S_slice r6
  clear r2 r5 r6
  replace xS0 := pw_cell_below (below_alloc (Below.refl _ w2) (.cells #[.int .i64 2, .int .i64 2, .slice ga 0 gk, .int .i64 2, .int .i64 2, .slice gb 0 gl, .slice gc 0 gm] 27)) xS0
  replace xS1 := pw_cell_below (below_alloc (Below.refl _ w2) (.cells #[.int .i64 2, .int .i64 2, .slice ga 0 gk, .int .i64 2, .int .i64 2, .slice gb 0 gl, .slice gc 0 gm] 27)) xS1
  replace xS2 := pw_cell_below (below_alloc (Below.refl _ w2) (.cells #[.int .i64 2, .int .i64 2, .slice ga 0 gk, .int .i64 2, .int .i64 2, .slice gb 0 gl, .slice gc 0 gm] 27)) xS2
  replace xS3 := pw_cell_below (below_alloc (Below.refl _ w2) (.cells #[.int .i64 2, .int .i64 2, .slice ga 0 gk, .int .i64 2, .int .i64 2, .slice gb 0 gl, .slice gc 0 gm] 27)) xS3
  replace xS4 := pw_cell_below (below_alloc (Below.refl _ w2) (.cells #[.int .i64 2, .int .i64 2, .slice ga 0 gk, .int .i64 2, .int .i64 2, .slice gb 0 gl, .slice gc 0 gm] 27)) xS4
  replace xS5 := pw_cell_below (below_alloc (Below.refl _ w2) (.cells #[.int .i64 2, .int .i64 2, .slice ga 0 gk, .int .i64 2, .int .i64 2, .slice gb 0 gl, .slice gc 0 gm] 27)) xS5
  replace xS6 := pw_cell_below (below_alloc (Below.refl _ w2) (.cells #[.int .i64 2, .int .i64 2, .slice ga 0 gk, .int .i64 2, .int .i64 2, .slice gb 0 gl, .slice gc 0 gm] 27)) xS6
  go_wp2_with fail
  refine (laws_eqDesk.calls 10 2 2 ga gk [] 2 2 gb gl [] gc gm [] 2 2 sa sk [] 2 2 sb sl [] sc sm [] true _ (C_none _ _ _) (Nat.zero_le _) (C_none _ _ _) (Nat.zero_le _) (C_none _ _ _) (Nat.zero_le _) (C_none _ _ _) (Nat.zero_le _) (C_none _ _ _) (Nat.zero_le _) (C_none _ _ _) (Nat.zero_le _) HE.out).mono ?_
  rintro e w3 ⟨rfl, hb⟩
  replace xS0 := pw_cell_below hb xS0
  replace xS1 := pw_cell_below hb xS1
  replace xS2 := pw_cell_below hb xS2
  replace xS3 := pw_cell_below hb xS3
  replace xS4 := pw_cell_below hb xS4
  replace xS5 := pw_cell_below hb xS5
  replace xS6 := pw_cell_below hb xS6
  have xG0 : w3.cell? ⟨w2.heap.size, 0, none⟩ = some (.int .i64 2) := pw_cell_below hb (by simp)
  have xG1 : w3.cell? ⟨w2.heap.size, 1, none⟩ = some (.int .i64 2) := pw_cell_below hb (by simp)
  have xG2 : w3.cell? ⟨w2.heap.size, 2, none⟩ = some (.slice ga 0 gk) := pw_cell_below hb (by simp)
  have xG3 : w3.cell? ⟨w2.heap.size, 3, none⟩ = some (.int .i64 2) := pw_cell_below hb (by simp)
  have xG4 : w3.cell? ⟨w2.heap.size, 4, none⟩ = some (.int .i64 2) := pw_cell_below hb (by simp)
  have xG5 : w3.cell? ⟨w2.heap.size, 5, none⟩ = some (.slice gb 0 gl) := pw_cell_below hb (by simp)
  have xG6 : w3.cell? ⟨w2.heap.size, 6, none⟩ = some (.slice gc 0 gm) := pw_cell_below hb (by simp)
  replace B := Aside0.mk (below_step (by repeat (first | (with_reducible first | exact B.out | apply below_alloc | apply pw_below_drewN | apply below_drew1) | exact B.out)) hb)
  clear hb
  go_wp2_with fail
  refine (markDesk_none 2 2 ga gk 2 2 gb gl gc gm 1 _).mono ?_
  rintro e w4 ⟨rfl, hb⟩
  replace xS0 := pw_cell_below hb xS0
  replace xS1 := pw_cell_below hb xS1
  replace xS2 := pw_cell_below hb xS2
  replace xS3 := pw_cell_below hb xS3
  replace xS4 := pw_cell_below hb xS4
  replace xS5 := pw_cell_below hb xS5
  replace xS6 := pw_cell_below hb xS6
  replace xG0 := pw_cell_below hb xG0
  replace xG1 := pw_cell_below hb xG1
  replace xG2 := pw_cell_below hb xG2
  replace xG3 := pw_cell_below hb xG3
  replace xG4 := pw_cell_below hb xG4
  replace xG5 := pw_cell_below hb xG5
  replace xG6 := pw_cell_below hb xG6
  replace B := Aside0.mk (below_step (by repeat (first | (with_reducible first | exact B.out | apply below_alloc | apply pw_below_drewN | apply below_drew1) | exact B.out)) hb)
  clear hb
  go_wp2_with fail
  refine (laws_heldDesk.calls 10 2 2 ga gk [] 2 2 gb gl [] gc gm [] 1 1 _ (C_none _ _ _) (Nat.zero_le _) (C_none _ _ _) (Nat.zero_le _) (C_none _ _ _) (Nat.zero_le _) HH.out).mono ?_
  rintro e w5 ⟨rfl, hb⟩
  replace xS0 := pw_cell_below hb xS0
  replace xS1 := pw_cell_below hb xS1
  replace xS2 := pw_cell_below hb xS2
  replace xS3 := pw_cell_below hb xS3
  replace xS4 := pw_cell_below hb xS4
  replace xS5 := pw_cell_below hb xS5
  replace xS6 := pw_cell_below hb xS6
  replace xG0 := pw_cell_below hb xG0
  replace xG1 := pw_cell_below hb xG1
  replace xG2 := pw_cell_below hb xG2
  replace xG3 := pw_cell_below hb xG3
  replace xG4 := pw_cell_below hb xG4
  replace xG5 := pw_cell_below hb xG5
  replace xG6 := pw_cell_below hb xG6
  replace B := Aside0.mk (below_step (by repeat (first | (with_reducible first | exact B.out | apply below_alloc | apply pw_below_drewN | apply below_drew1) | exact B.out)) hb)
  clear hb
  go_wp2_with fail
  refine (impl_NewDesk.calls 2 2 [] 2 2 [] [] _ HI.out).mono ?_
  rintro e w6 ⟨u2, u5, u6, rfl, r2, r5, r6, hb⟩
  replace xS0 := pw_cell_below hb xS0
  replace xS1 := pw_cell_below hb xS1
  replace xS2 := pw_cell_below hb xS2
  replace xS3 := pw_cell_below hb xS3
  replace xS4 := pw_cell_below hb xS4
  replace xS5 := pw_cell_below hb xS5
  replace xS6 := pw_cell_below hb xS6
  replace xG0 := pw_cell_below hb xG0
  replace xG1 := pw_cell_below hb xG1
  replace xG2 := pw_cell_below hb xG2
  replace xG3 := pw_cell_below hb xG3
  replace xG4 := pw_cell_below hb xG4
  replace xG5 := pw_cell_below hb xG5
  replace xG6 := pw_cell_below hb xG6
  replace B := Aside0.mk (below_step (by repeat (first | (with_reducible first | exact B.out | apply below_alloc | apply pw_below_drewN | apply below_drew1) | exact B.out)) hb)
  clear hb
  obtain ⟨ha, hk, rfl⟩ := Kd.R_slice r2
  obtain ⟨hb_, hl, rfl⟩ := Kd.R_slice r5
  obtain ⟨hc, hm, rfl⟩ := Kd.S_slice r6
  clear r2 r5 r6
  replace xS0 := pw_cell_below (below_alloc (Below.refl _ w6) (.cells #[.int .i64 2, .int .i64 2, .slice ha 0 hk, .int .i64 2, .int .i64 2, .slice hb_ 0 hl, .slice hc 0 hm] 27)) xS0
  replace xS1 := pw_cell_below (below_alloc (Below.refl _ w6) (.cells #[.int .i64 2, .int .i64 2, .slice ha 0 hk, .int .i64 2, .int .i64 2, .slice hb_ 0 hl, .slice hc 0 hm] 27)) xS1
  replace xS2 := pw_cell_below (below_alloc (Below.refl _ w6) (.cells #[.int .i64 2, .int .i64 2, .slice ha 0 hk, .int .i64 2, .int .i64 2, .slice hb_ 0 hl, .slice hc 0 hm] 27)) xS2
  replace xS3 := pw_cell_below (below_alloc (Below.refl _ w6) (.cells #[.int .i64 2, .int .i64 2, .slice ha 0 hk, .int .i64 2, .int .i64 2, .slice hb_ 0 hl, .slice hc 0 hm] 27)) xS3
  replace xS4 := pw_cell_below (below_alloc (Below.refl _ w6) (.cells #[.int .i64 2, .int .i64 2, .slice ha 0 hk, .int .i64 2, .int .i64 2, .slice hb_ 0 hl, .slice hc 0 hm] 27)) xS4
  replace xS5 := pw_cell_below (below_alloc (Below.refl _ w6) (.cells #[.int .i64 2, .int .i64 2, .slice ha 0 hk, .int .i64 2, .int .i64 2, .slice hb_ 0 hl, .slice hc 0 hm] 27)) xS5
  replace xS6 := pw_cell_below (below_alloc (Below.refl _ w6) (.cells #[.int .i64 2, .int .i64 2, .slice ha 0 hk, .int .i64 2, .int .i64 2, .slice hb_ 0 hl, .slice hc 0 hm] 27)) xS6
  replace xG0 := pw_cell_below (below_alloc (Below.refl _ w6) (.cells #[.int .i64 2, .int .i64 2, .slice ha 0 hk, .int .i64 2, .int .i64 2, .slice hb_ 0 hl, .slice hc 0 hm] 27)) xG0
  replace xG1 := pw_cell_below (below_alloc (Below.refl _ w6) (.cells #[.int .i64 2, .int .i64 2, .slice ha 0 hk, .int .i64 2, .int .i64 2, .slice hb_ 0 hl, .slice hc 0 hm] 27)) xG1
  replace xG2 := pw_cell_below (below_alloc (Below.refl _ w6) (.cells #[.int .i64 2, .int .i64 2, .slice ha 0 hk, .int .i64 2, .int .i64 2, .slice hb_ 0 hl, .slice hc 0 hm] 27)) xG2
  replace xG3 := pw_cell_below (below_alloc (Below.refl _ w6) (.cells #[.int .i64 2, .int .i64 2, .slice ha 0 hk, .int .i64 2, .int .i64 2, .slice hb_ 0 hl, .slice hc 0 hm] 27)) xG3
  replace xG4 := pw_cell_below (below_alloc (Below.refl _ w6) (.cells #[.int .i64 2, .int .i64 2, .slice ha 0 hk, .int .i64 2, .int .i64 2, .slice hb_ 0 hl, .slice hc 0 hm] 27)) xG4
  replace xG5 := pw_cell_below (below_alloc (Below.refl _ w6) (.cells #[.int .i64 2, .int .i64 2, .slice ha 0 hk, .int .i64 2, .int .i64 2, .slice hb_ 0 hl, .slice hc 0 hm] 27)) xG5
  replace xG6 := pw_cell_below (below_alloc (Below.refl _ w6) (.cells #[.int .i64 2, .int .i64 2, .slice ha 0 hk, .int .i64 2, .int .i64 2, .slice hb_ 0 hl, .slice hc 0 hm] 27)) xG6
  go_wp2_with fail
  refine (laws_eqDesk.calls 10 2 2 ha hk [] 2 2 hb_ hl [] hc hm [] 2 2 sa sk [] 2 2 sb sl [] sc sm [] true _ (C_none _ _ _) (Nat.zero_le _) (C_none _ _ _) (Nat.zero_le _) (C_none _ _ _) (Nat.zero_le _) (C_none _ _ _) (Nat.zero_le _) (C_none _ _ _) (Nat.zero_le _) (C_none _ _ _) (Nat.zero_le _) HE.out).mono ?_
  rintro e w7 ⟨rfl, hb⟩
  replace xS0 := pw_cell_below hb xS0
  replace xS1 := pw_cell_below hb xS1
  replace xS2 := pw_cell_below hb xS2
  replace xS3 := pw_cell_below hb xS3
  replace xS4 := pw_cell_below hb xS4
  replace xS5 := pw_cell_below hb xS5
  replace xS6 := pw_cell_below hb xS6
  replace xG0 := pw_cell_below hb xG0
  replace xG1 := pw_cell_below hb xG1
  replace xG2 := pw_cell_below hb xG2
  replace xG3 := pw_cell_below hb xG3
  replace xG4 := pw_cell_below hb xG4
  replace xG5 := pw_cell_below hb xG5
  replace xG6 := pw_cell_below hb xG6
  have xH0 : w7.cell? ⟨w6.heap.size, 0, none⟩ = some (.int .i64 2) := pw_cell_below hb (by simp)
  have xH1 : w7.cell? ⟨w6.heap.size, 1, none⟩ = some (.int .i64 2) := pw_cell_below hb (by simp)
  have xH2 : w7.cell? ⟨w6.heap.size, 2, none⟩ = some (.slice ha 0 hk) := pw_cell_below hb (by simp)
  have xH3 : w7.cell? ⟨w6.heap.size, 3, none⟩ = some (.int .i64 2) := pw_cell_below hb (by simp)
  have xH4 : w7.cell? ⟨w6.heap.size, 4, none⟩ = some (.int .i64 2) := pw_cell_below hb (by simp)
  have xH5 : w7.cell? ⟨w6.heap.size, 5, none⟩ = some (.slice hb_ 0 hl) := pw_cell_below hb (by simp)
  have xH6 : w7.cell? ⟨w6.heap.size, 6, none⟩ = some (.slice hc 0 hm) := pw_cell_below hb (by simp)
  replace B := Aside0.mk (below_step (by repeat (first | (with_reducible first | exact B.out | apply below_alloc | apply pw_below_drewN | apply below_drew1) | exact B.out)) hb)
  clear hb
  go_wp2_with fail
  refine (laws_heldDesk.calls 10 2 2 ga gk [] 2 2 gb gl [] gc gm [] 1 1 _ (C_none _ _ _) (Nat.zero_le _) (C_none _ _ _) (Nat.zero_le _) (C_none _ _ _) (Nat.zero_le _) HH.out).mono ?_
  rintro e w8 ⟨rfl, hb⟩
  replace xS0 := pw_cell_below hb xS0
  replace xS1 := pw_cell_below hb xS1
  replace xS2 := pw_cell_below hb xS2
  replace xS3 := pw_cell_below hb xS3
  replace xS4 := pw_cell_below hb xS4
  replace xS5 := pw_cell_below hb xS5
  replace xS6 := pw_cell_below hb xS6
  replace xG0 := pw_cell_below hb xG0
  replace xG1 := pw_cell_below hb xG1
  replace xG2 := pw_cell_below hb xG2
  replace xG3 := pw_cell_below hb xG3
  replace xG4 := pw_cell_below hb xG4
  replace xG5 := pw_cell_below hb xG5
  replace xG6 := pw_cell_below hb xG6
  replace xH0 := pw_cell_below hb xH0
  replace xH1 := pw_cell_below hb xH1
  replace xH2 := pw_cell_below hb xH2
  replace xH3 := pw_cell_below hb xH3
  replace xH4 := pw_cell_below hb xH4
  replace xH5 := pw_cell_below hb xH5
  replace xH6 := pw_cell_below hb xH6
  replace B := Aside0.mk (below_step (by repeat (first | (with_reducible first | exact B.out | apply below_alloc | apply pw_below_drewN | apply below_drew1) | exact B.out)) hb)
  clear hb
  go_wp2
  go_ret
  exact ⟨rfl, B.out⟩
end Go.Proofs.Ytfbkjlgibpmpoaa.Nest
