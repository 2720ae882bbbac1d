/- The signature of a path: what a call of signature comes to. -/
import Derived.Test.YtcklefgkbddlhaaHandRows
import Derived.Test.YtcklefgkbddlhaaTabP
namespace Go.Proofs.Ytcklefgkbddlhaa.Tab
open Go.RowKit Go.Proofs.Ytcklefgkbddlhaa.P Go.Proofs.YtcklefgkbddlhaaW.PrintWords Go.Proofs.YtcklefgkbddlhaaW.PrintLast Go.Proofs.YtcklefgkbddlhaaW.PrintMore
set_option linter.unusedVariables false
set_option linter.unusedSimpArgs false

/-- The values of a signature behind the steps. -/
def sigL (k : Nat) (d : Int) (N : Nat) (ws : List ByteArray) : List (List Int) → List S27 → Bool → Option (List S27 × Bool)
  | [], os, bo => some (os, bo)
  | l :: p, os, bo => if l.length + 1 ≤ ws.length then (powersL k d ws (stepF ws.length l l.length) false (N + 1) 0 (List.replicate ws.length ⟨0, 1⟩) false (unitV ws.length) false).bind fun e =>
      (timesO k d os e.1 ws (List.replicate ws.length ⟨0, 1⟩) (bo || e.2)).bind fun o => sigL k d N ws p o.1 o.2 else none
set_option maxHeartbeats 16000000 in
set_option maxRecDepth 100000 in
theorem signature (k : Nat) (d : Int) (N : Nat) (hN : N ≤ 1000) (ws : List ByteArray) (hk : impl_allWords.f k d (N : Int) = some ws) (h1 : 1 ≤ ws.length) (h2 : ws.length ≤ 1000) (hx : ∀ x ∈ ws, x.size ≤ 1000) (A : Option Addr) (c : Nat) (l : List (List Int)) (r : List S27 × Bool) (hs : sigL k d N ws l (unitV ws.length) false = some r) (w : World) (hr : Kd.C (Kd.slice 2 (Kd.int .i64)) w A l.length l) :
    Calls Try.prog 73 #[.int .i64 d, .int .i64 (N : Int), .slice A l.length c] w fun e w' => ∃ Bo go co, e = .returned (.pointer (some ⟨Bo, 0, none⟩)) ∧ Tab w' w.heap.size Bo go co d (N : Int) r.1 r.2 ∧ Below w.heap.size w w' := by
  have hbig : l.length ≤ 9223372036854775807 := Kd.C_max hr
  have HK := Aside0.mk hk
  have HX := Aside0.mk hx
  have H := Aside0.mk hs
  have HR := Aside0.mk hr
  clear hk hx hs hr
  go_enter Try.func73, Try.ntmps73
  go_wp2_with (first
    | (go_at_call 85; refine (newTable k d (N : Int) ws HK.out h1 h2 _).mono ?_; rintro e w1 ⟨B, g, cap, rfl, ht, hb⟩; have T1 := Aside0.mk ht; have B1 := Aside0.mk hb; clear ht hb)
    | (go_at_call 86; refine (unit k d (N : Int) ws HK.out h1 h2 _ B g cap _ false _ T1.out).mono ?_; rintro e w2 ⟨Bo, go, co, rfl, ht, hb⟩; have TO2 := Aside0.mk (ht.lower (base' := w.heap.size) (below_size B1.out)); have B2 := Aside0.mk (below_step B1.out hb); clear ht hb))
  clear T1 B1
  go_loopw [7, 16] (fun s7 s16 wr => ∃ (i : Nat) (os : List S27) (bo : Bool) (Bo go co : Nat), i ≤ l.length ∧ s7 = .pointer (some ⟨Bo, 0, none⟩) ∧ s16 = .int .i64 i ∧ Aside0 (sigL k d N ws (l.drop i) os bo = some r) ∧ Aside0 (Tab wr w.heap.size Bo go co d (N : Int) os bo) ∧ Aside0 (Below w.heap.size w wr)) (fun _ s16 _ => l.length - (intOf s16).toNat)
  case atStart => exact ⟨0, _, _, Bo, go, co, Nat.zero_le _, rfl, rfl, H, TO2, B2⟩
  case round =>
    clear H TO2 B2
    obtain ⟨i, os, bo, Bo, go, co, hi, rfl, rfl, H, TO, BB⟩ := hrel
    by_cases hlt : i < l.length
    · have hltz : (i : Int) < (l.length : Int) := by omega
      have H := H.out
      rw [List.drop_eq_getElem_cons hlt] at H
      simp only [sigL] at H
      by_cases hln : l[i].length + 1 ≤ ws.length
      · rw [if_pos hln] at H
        obtain ⟨⟨e1, e2⟩, AE, H⟩ := Option.bind_eq_some_iff.mp H
        obtain ⟨⟨o1, o2⟩, AO, H⟩ := Option.bind_eq_some_iff.mp H
        have AE := Aside0.mk AE
        have AO := Aside0.mk AO
        have HN := Aside0.mk H
        clear H
        obtain ⟨ad, A0, c0, eA, x0, _, hC⟩ := Hand.at_rows (Kd.C_below HR.out BB.out) (i : Int) (by omega) hltz
        subst eA
        rw [show Hand.rdR l (i : Int) = l[i] from by simp [Hand.rdR, hlt]] at x0 hC
        rw [Int.toNat_natCast] at x0
        have RC := Aside0.mk hC
        have p1 : (0 ≤ (i : Int)) = True := eq_true (by omega)
        have p2 : ((i : Int) < (l.length : Int)) = True := eq_true hltz
        have p3 : (i < l.length) = True := eq_true hlt
        clear hC
        go_wp2_with (first
          | (go_at_call 91; refine (stepSignature k d N hN ws HK.out h1 h2 HX.out A0 c0 l[i] hln (e1, e2) AE.out _ RC.out).mono ?_; rintro e w3 ⟨Be, ge, ce, rfl, ht, hb⟩; have TE := Aside0.mk ht; have TO3 := Aside0.mk (TO.out.below hb); have B3 := Aside0.mk (below_step BB.out hb); clear ht hb)
          | (go_at_call 90; refine (times k d (N : Int) ws HK.out h1 h2 HX.out _ Bo go co os bo _ Be ge ce e1 e2 (o1, o2) AO.out _ TO3.out TE.out).mono ?_; rintro e w4 ⟨Bq, gq, cq, rfl, ht, hb⟩; have TQ := Aside0.mk (ht.lower (base' := w.heap.size) (below_size B3.out)); have B4 := Aside0.mk (below_step B3.out hb); clear ht hb))
        exact ⟨⟨i + 1, _, _, Bq, gq, cq, by omega, rfl, by go_num, HN, TQ, B4⟩, by simp [intOf]; omega⟩
      · rw [if_neg hln] at H
        exact absurd H (by simp)
    · obtain rfl : i = l.length := by omega
      have H := H.out
      rw [List.drop_length] at H
      simp only [sigL] at H
      cases H
      go_wp2
      exact bodyPost_ret (results_tmp rfl _ _ _) rfl ⟨Bo, rfl, ⟨go, co, TO.out⟩, BB.out⟩
end Go.Proofs.Ytcklefgkbddlhaa.Tab
