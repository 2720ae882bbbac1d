/- The signature of a step: what a call of stepSignature comes to. -/
import Derived.Test.YtcklefgkbddlhaaTabO
namespace Go.Proofs.Ytcklefgkbddlhaa.Tab
open Go.RowKit Go.Proofs.Ytcklefgkbddlhaa.P Go.Proofs.YtcklefgkbddlhaaW.PrintWords Go.Proofs.YtcklefgkbddlhaaW.PrintLast Go.Proofs.YtcklefgkbddlhaaW.PrintMore
set_option linter.unusedVariables false
set_option linter.unusedSimpArgs false

/-- The values of a step behind so many letters. -/
def stepF (m : Nat) (l : List Int) : Nat → List S27
  | 0 => List.replicate m ⟨0, 1⟩
  | i + 1 => (stepF m l i).set (1 + i) ⟨rd l (i : Int), 1⟩
theorem stepF_length (m : Nat) (l : List Int) : ∀ i, (stepF m l i).length = m
  | 0 => by simp [stepF]
  | i + 1 => by rw [stepF, List.length_set, stepF_length m l i]
set_option maxHeartbeats 16000000 in
set_option maxRecDepth 100000 in
theorem stepSignature (k : Nat) (d : Int) (N : Nat) (hN : N ≤ 1000) (ws : List ByteArray) (hk : impl_allWords.f k d (N : Int) = some ws) (h1 : 1 ≤ ws.length) (h2 : ws.length ≤ 1000) (hx : ∀ x ∈ ws, x.size ≤ 1000) (A : Option Addr) (c : Nat) (l : List Int) (hl : l.length + 1 ≤ ws.length) (r : List S27 × Bool) (hs : powersL k d ws (stepF ws.length l l.length) false (N + 1) 0 (List.replicate ws.length ⟨0, 1⟩) false (unitV ws.length) false = some r) (w : World) (hr : Kd.C (Kd.int .i64) w A l.length l) :
    Calls Try.prog 91 #[.int .i64 d, .int .i64 (N : Int), .slice A l.length c] w fun e w' => ∃ Bo go co, e = .returned (.pointer (some ⟨Bo, 0, none⟩)) ∧ Tab w' w.heap.size Bo go co d (N : Int) r.1 r.2 ∧ Below w.heap.size w w' := by
  have HK := Aside0.mk hk
  have HX := Aside0.mk hx
  have HS := Aside0.mk hs
  have HR := Aside0.mk hr
  clear hk hx hs hr
  go_enter Try.func91, Try.ntmps91
  go_wp2_with (go_at_call 85; refine (newTable k d (N : Int) ws HK.out h1 h2 _).mono ?_; rintro e w1 ⟨B, g, cap, rfl, ht, hb⟩; have T1 := Aside0.mk ht; have B1 := Aside0.mk hb; have hB : w.heap.size ≤ B := ht.hB; have hg : w.heap.size ≤ g := ht.hg; have hne : B ≠ g := ht.ne; clear ht hb)
  go_loopw [15] (fun s15 wr => ∃ i : Nat, i ≤ l.length ∧ s15 = .int .i64 i ∧ Aside0 (Tab wr w.heap.size B g cap d (N : Int) (stepF ws.length l i) false) ∧ Aside0 (Below w.heap.size w wr)) (fun s15 _ => l.length - (intOf s15).toNat)
  case atStart => exact ⟨0, Nat.zero_le _, rfl, T1, B1⟩
  case round =>
    clear T1 B1
    obtain ⟨i, hi, rfl, HT, BB⟩ := hrel
    by_cases hlt : i < l.length
    · have hltz : (i : Int) < (l.length : Int) := by omega
      obtain ⟨ad, eA, x0⟩ := Kd.at_int HR.out (i : Int) (by omega) hltz
      subst eA
      rw [Int.toNat_natCast] at x0
      replace x0 := (BB.out.cell (World.block_lt_of_cell? w _ x0)).trans x0
      have p1 : (0 ≤ (i : Int)) = True := eq_true (by omega)
      have p2 : ((i : Int) < (l.length : Int)) = True := eq_true hltz
      have p3 : (i < l.length) = True := eq_true hlt
      have x2 := HT.out.cells.2.2.1
      rw [stepF_length] at x2
      have q1 : (0 ≤ 1 + (i : Int)) = True := eq_true (by omega)
      have q2 : (1 + (i : Int) < (ws.length : Int)) = True := eq_true (by omega)
      have q3 : (1 + i < ws.length) = True := eq_true (by omega)
      have q4 : (1 + (i : Int)).toNat = 1 + i := by omega
      go_wp2_with fail
      have hwi : IntKind.i64.wrap (1 + (i : Int)) = 1 + (i : Int) := by
        rw [i64_w]
        unfold wrap64
        omega
      refine wp_region_noPanic ?_
      refine wp_region_held_drew (S := (fun w' => w'.cell? ⟨B, 2, none⟩ = some (.slice (some ⟨g, 0, none⟩) ws.length cap))) (by kernel_rfl) ?_ (fun hHeld => ?_)
      · (try dsimp only)
        (exact pw_cell_below (below_drew (Below.refl _ _)) x2)
      refine wpAnyH_take (i := 0) (v := ?v0) rfl (by kernel_rfl) (by kernel_rfl) (by kernel_rfl) (fun _ _ _ h => h) (Or.inl ⟨by rfl, ?hy0⟩) (by assumption) ?rest0
      case hy0 => (intro w hSw; (try dsimp only at hSw); go_simp; try (with_reducible rfl))
      (try simp only [Act.put, List.setIfInBounds_toArray, List.set_cons_zero, List.set_cons_succ])
      refine wpAnyH_take (i := 1) (v := ?v1) rfl (by kernel_rfl) (by kernel_rfl) (by kernel_rfl) (fun _ _ _ h => h) (Or.inl ⟨by rfl, ?hy1⟩) (by assumption) ?rest1
      case hy1 => (intro w hSw; (try dsimp only at hSw); go_simp; try (with_reducible rfl))
      (try simp only [Act.put, List.setIfInBounds_toArray, List.set_cons_zero, List.set_cons_succ])
      refine wpAnyH_take (i := 2) (v := ?v2) rfl (by kernel_rfl) (by kernel_rfl) (by kernel_rfl) (fun _ _ _ h => h) (Or.inl ⟨by rfl, ?hy2⟩) (by assumption) ?rest2
      case hy2 => (intro w hSw; (try dsimp only at hSw); go_simp; try (with_reducible rfl))
      (try simp only [Act.put, List.setIfInBounds_toArray, List.set_cons_zero, List.set_cons_succ])
      refine wpAnyH_take (i := 3) (v := ?v3) rfl (by kernel_rfl) (by kernel_rfl) (by kernel_rfl) (fun _ _ _ h => h) (Or.inl ⟨by rfl, ?hy3⟩) (by assumption) ?rest3
      case hy3 => (intro w hSw; (try dsimp only at hSw); go_simp; try (with_reducible rfl))
      (try simp only [Act.put, List.setIfInBounds_toArray, List.set_cons_zero, List.set_cons_succ])
      refine wpAnyH_take (i := 4) (v := ?v4) rfl (by kernel_rfl) (by kernel_rfl) (by kernel_rfl) (fun _ _ _ h => h) (Or.inl ⟨by rfl, ?hy4⟩) (by assumption) ?rest4
      case hy4 => (intro w hSw; (try dsimp only at hSw); go_simp; try (with_reducible rfl))
      (try simp only [Act.put, List.setIfInBounds_toArray, List.set_cons_zero, List.set_cons_succ])
      refine wpAnyH_take (i := 5) (v := ?v5) rfl (by kernel_rfl) (by kernel_rfl) (by kernel_rfl) (fun _ _ _ h => h) (Or.inl ⟨by rfl, ?hy5⟩) (by assumption) ?rest5
      case hy5 => (intro w hSw; (try dsimp only at hSw); go_simp; try (with_reducible rfl))
      (try simp only [Act.put, List.setIfInBounds_toArray, List.set_cons_zero, List.set_cons_succ])
      refine wpAnyH_take (i := 6) (v := ?v6) rfl (by kernel_rfl) (by kernel_rfl) (by kernel_rfl) (fun _ _ _ h => h) (Or.inl ⟨by rfl, ?hy6⟩) (by assumption) ?rest6
      case hy6 => (intro w hSw; (try dsimp only at hSw); go_simp; try (with_reducible rfl))
      (try simp only [Act.put, List.setIfInBounds_toArray, List.set_cons_zero, List.set_cons_succ])
      refine wpAnyH_ready (rs := [7]) (by kernel_rfl) (by simp) ?_
      refine AllReadyH.cons rfl (fun K hK => ?_) AllReadyH.nil
      go_simp
      (go_at_call 134; refine (impl_whole.calls (rd l (i : Int)) (rd l (i : Int)) 1 _ rfl).mono ?_; rintro e w2 ⟨rfl, hb2⟩; have HT2 := Aside0.mk ((HT.out.below (below_drew (Below.refl _ _))).below hb2); have hx2 := HT2.out.cells.2.2.1; rw [stepF_length] at hx2; obtain ⟨v0, v1, vf⟩ := HT2.out.val (1 + (i : Int)) (by omega) (by rw [stepF_length]; omega); rw [q4] at v0 v1; have vf0 := vf ((1 + i) * 2); have vf1 := vf ((1 + i) * 2 + 1))
      refine hK.out _ _ ?_ (fun hHeld => ?_)
      · (try dsimp only)
        (exact hx2)
      clear hK K
      (try simp only [Act.put, List.setIfInBounds_toArray, List.set_cons_zero, List.set_cons_succ])
      refine wpAnyH_take (i := 8) (v := ?v7) rfl (by kernel_rfl) (by kernel_rfl) (by kernel_rfl) (fun _ _ _ h => h) (Or.inl ⟨by rfl, ?hy7⟩) (by assumption) ?rest7
      case hy7 => (intro w hSw; (try dsimp only at hSw); go_simp; try (with_reducible rfl))
      (try simp only [Act.put, List.setIfInBounds_toArray, List.set_cons_zero, List.set_cons_succ])
      refine wpAnyH_ready (rs := [9]) (by kernel_rfl) (by simp) ?_
      refine AllReadyH.cons rfl (fun K hK => ?_) AllReadyH.nil
      go_simp
      refine hK.out _ _ ?_ (fun hHeld => ?_)
      · (try dsimp only)
        (exact cell_far hne (cell_far hne hx2))
      clear hK K
      (try simp only [Act.put, List.setIfInBounds_toArray, List.set_cons_zero, List.set_cons_succ])
      refine wpAnyH_done (by kernel_rfl) ?_ _
      refine NoPanic.normal ?_
      go_wp2
      have hp := HT2.out.put (1 + (i : Int)) (by omega) (by rw [stepF_length]; omega) (rd l (i : Int)) 1
      rw [q4] at hp
      exact ⟨⟨i + 1, by omega, by go_num, ⟨hp⟩, ⟨below_set (below_set (below_step (below_drew BB.out) hb2) hg) hg⟩⟩, by simp [intOf]; omega⟩
    · obtain rfl : i = l.length := by omega
      have hb0 := BB.out.size
      go_wp2_with (go_at_call 139; refine (exponential k d N hN ws HK.out h1 h2 HX.out w.heap.size B g cap _ false (stepF_length _ _ _) r HS.out _ HT.out).mono ?_; rintro e w3 ⟨Bo, go, co, rfl, ht, hb⟩)
      exact bodyPost_ret (results_tmp rfl _ _ _) rfl ⟨Bo, go, co, rfl, ht.lower hb0, below_step BB.out hb⟩
end Go.Proofs.Ytcklefgkbddlhaa.Tab
