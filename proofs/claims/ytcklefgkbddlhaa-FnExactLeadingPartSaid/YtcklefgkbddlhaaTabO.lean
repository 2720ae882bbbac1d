/- The exponential of a table: what calls of powers (from 0 on, with the factorials) and of exponential come to. -/
import Derived.Test.YtcklefgkbddlhaaPx12
import Derived.Test.YtcklefgkbddlhaaTabK
import Derived.Test.YtcklefgkbddlhaaTabL
namespace Go.Proofs.Ytcklefgkbddlhaa.Tab
open Go.RowKit Go.Proofs.Ytcklefgkbddlhaa.P Go.Proofs.YtcklefgkbddlhaaW.PrintWords Go.Proofs.YtcklefgkbddlhaaW.PrintLast Go.Proofs.YtcklefgkbddlhaaW.PrintMore
set_option linter.unusedVariables false
set_option linter.unusedSimpArgs false

set_option maxHeartbeats 4000000 in
theorem overFact (k : Nat) (a f : Int) (h : impl_factorial.f k a = some f) (w : World) :
    Calls Try.prog 166 #[.int .i64 a] w fun e w' => e = .returned (.agg #[.int .i64 1, .int .i64 f]) ∧ Below w.heap.size w w' := by
  have H := Aside0.mk h
  clear h
  have B0 := Aside0.mk (below_alloc (Below.refl w.heap.size w) (.cells #[.int .i64 0, .int .i64 0] 27))
  have R0 := Aside0.mk (blk_new w (.cells #[.int .i64 0, .int .i64 0] 27))
  go_enter Try.func166, Try.ntmps166
  go_wp2_with (go_at_call 167; refine (impl_factorial.calls k a f _ H.out).mono ?_; rintro e w1 ⟨rfl, hd⟩; have hb := of_drawn hd; have hr := (hb.block w.heap.size (blk_lt R0.out)).trans R0.out; have r0 : w1.cell? ⟨w.heap.size, 0, none⟩ = some (.int .i64 0) := (blk_cell hr 0).trans rfl; have r1 : w1.cell? ⟨w.heap.size, 1, none⟩ = some (.int .i64 0) := (blk_cell hr 1).trans rfl; have f0 := blk_frozen hr 0; have f1 := blk_frozen hr 1; have HR := Aside0.mk hr; have B1 := Aside0.mk (below_step B0.out hb); clear hb hd hr)
  refine bodyPost_ret (results_cell_row rfl _ _ w.heap.size 27 #[.int .i64 1, .int .i64 f] (0, 0) _ rfl (blk_put (cs := #[.int .i64 1, .int .i64 0]) (blk_put (cs := #[.int .i64 0, .int .i64 0]) HR.out 0 _ rfl) 1 _ rfl) Try.underlying27 rfl (by kernel_rfl)) rfl ?_
  exact ⟨rfl, below_set (below_set B1.out (Nat.le_refl _)) (Nat.le_refl _)⟩
/-- One power more, from k = 1 on. -/
def nextP (k : Nat) (d : Int) (ws : List ByteArray) (ts : List S27) (bt : Bool) (i : Nat) (ps : List S27) (bp : Bool) : Option (List S27 × Bool) :=
  if i = 0 then some (ps, bp) else timesO k d ps ts ws (List.replicate ws.length ⟨0, 1⟩) (bp || bt)
/-- The sum of the powers over the factorials: the values, the last power's values. -/
def powersL (k : Nat) (d : Int) (ws : List ByteArray) (ts : List S27) (bt : Bool) : Nat → Nat → List S27 → Bool → List S27 → Bool → Option (List S27 × Bool)
  | 0, _, os, bo, _, _ => some (os, bo)
  | e + 1, i, os, bo, ps, bp => (nextP k d ws ts bt i ps bp).bind fun p => if p.1.length = ws.length then (impl_factorial.f k (i : Int)).bind fun f =>
      (scaledL k p.1 1 f ws.length 0 (List.replicate ws.length ⟨0, 1⟩) p.2).bind fun s => if s.1.length = ws.length then (sumL k os s.1 ws.length 0 (List.replicate ws.length ⟨0, 1⟩) (bo || s.2)).bind fun o => if o.1.length = ws.length then powersL k d ws ts bt e (i + 1) o.1 o.2 p.1 p.2 else none else none else none
set_option maxHeartbeats 16000000 in
set_option maxRecDepth 100000 in
theorem powers (k : Nat) (d : Int) (N : Nat) (hN : N ≤ 1000) (ws : List ByteArray) (hk : impl_allWords.f k d (N : Int) = some ws) (h1 : 1 ≤ ws.length) (h2 : ws.length ≤ 1000) (hx : ∀ x ∈ ws, x.size ≤ 1000) (base B g cap : Nat) (ts : List S27) (bt : Bool) (hl : ts.length = ws.length) (r : List S27 × Bool) (hs : powersL k d ws ts bt (N + 1) 0 (List.replicate ws.length ⟨0, 1⟩) false (unitV ws.length) false = some r) (w : World) (h : Tab w base B g cap d (N : Int) ts bt) :
    Calls Try.prog 165 #[.pointer (some ⟨B, 0, none⟩), .int .i64 0, .func (.func 166) #[] #[]] w fun e w' => ∃ Bo go co, e = .returned (.pointer (some ⟨Bo, 0, none⟩)) ∧ Tab w' w.heap.size Bo go co d (N : Int) r.1 r.2 ∧ Below w.heap.size w w' := by
  have HT := Aside0.mk h
  have HK := Aside0.mk hk
  have HX := Aside0.mk hx
  have H := Aside0.mk hs
  have HL := Aside0.mk hl
  clear h hk hx hs hl
  go_enter Try.func165, Try.ntmps165
  go_wp2_with (first
    | (go_at_call 133; refine (like k d (N : Int) ws HK.out h1 h2 base B g cap ts bt _ HT.out).mono ?_; rintro e w1 ⟨Bo, go, co, rfl, ht, hb⟩; have TO1 := Aside0.mk ht; have B1 := Aside0.mk hb; clear ht hb)
    | (go_at_call 86; refine (unit k d (N : Int) ws HK.out h1 h2 base B g cap ts bt _ (HT.out.below B1.out)).mono ?_; rintro e w2 ⟨Bp, gp, cp, rfl, ht, hb⟩; have TP2 := Aside0.mk (ht.lower (base' := w.heap.size) (below_size B1.out)); have TO2 := Aside0.mk (TO1.out.below hb); have B2 := Aside0.mk (below_step B1.out hb); have x1 := (HT.out.below B2.out).cells.2.1; clear ht hb TO1 B1))
  clear x1
  go_loopw [7, 8, 19] (fun s7 s8 s19 wr => ∃ (i : Nat) (os : List S27) (bo : Bool) (ps : List S27) (bp : Bool) (Bo go co Bp gp cp : Nat), i ≤ N + 1 ∧ s7 = .pointer (some ⟨Bo, 0, none⟩) ∧ s8 = .pointer (some ⟨Bp, 0, none⟩) ∧ s19 = .int .i64 i ∧ Aside0 (powersL k d ws ts bt (N + 1 - i) i os bo ps bp = some r) ∧ Aside0 (os.length = ws.length) ∧ Aside0 (ps.length = ws.length) ∧ Aside0 (Tab wr w.heap.size Bo go co d (N : Int) os bo) ∧ Aside0 (Tab wr w.heap.size Bp gp cp d (N : Int) ps bp) ∧ Aside0 (Below w.heap.size w wr)) (fun _ _ s19 _ => N + 1 - (intOf s19).toNat)
  case atStart => exact ⟨0, _, _, _, _, Bo, go, co, Bp, gp, cp, Nat.zero_le _, rfl, rfl, rfl, H, ⟨by simp⟩, ⟨unitV_length _⟩, TO2, TP2, B2⟩
  case round =>
    clear H TO2 TP2 B2
    obtain ⟨i, os, bo, ps, bp, Bo, go, co, Bp, gp, cp, hi, rfl, rfl, rfl, H, HLo, HLp, TO, TP, BB⟩ := hrel
    have hol := HLo.out
    by_cases hit : i < N + 1
    · have H := H.out
      obtain ⟨e', he'⟩ : ∃ e', N + 1 - i = e' + 1 := ⟨N + 1 - i - 1, by omega⟩
      rw [he'] at H
      simp only [powersL] at H
      rw [show e' = N + 1 - (i + 1) from by omega] at H
      obtain ⟨⟨q1, q2⟩, AQ, H⟩ := Option.bind_eq_some_iff.mp H
      by_cases hq : q1.length = ws.length
      · rw [if_pos hq] at H
        obtain ⟨f, AF, H⟩ := Option.bind_eq_some_iff.mp H
        obtain ⟨⟨s1, s2⟩, AS, H⟩ := Option.bind_eq_some_iff.mp H
        by_cases hs1 : s1.length = ws.length
        · rw [if_pos hs1] at H
          obtain ⟨⟨o1, o2⟩, AO, H⟩ := Option.bind_eq_some_iff.mp H
          by_cases ho1 : o1.length = ws.length
          · rw [if_pos ho1] at H
            have AF := Aside0.mk AF
            have AS := Aside0.mk AS
            have AO := Aside0.mk AO
            have HN := Aside0.mk H
            clear H
            have c1 : decide ((i : Int) < wrap64 ((N : Int) + 1)) = true := by rw [wrap_small N hN]; exact decide_eq_true (by omega)
            have c2 : ((i : Int) < wrap64 ((N : Int) + 1)) = True := eq_true (of_decide_eq_true c1)
            have c8 : decide ((i : Int) < (N : Int) + 1) = true := decide_eq_true (by omega)
            have c9 : ((i : Int) < (N : Int) + 1) = True := eq_true (by omega)
            have c3 : decide ((i : Int) ≥ 0) = true := decide_eq_true (by omega)
            have c4 : (0 ≤ (i : Int)) = True := eq_true (by omega)
            by_cases hz : i = 0
            · subst hz
              have e0 : (ps, bp) = (q1, q2) := Option.some.inj AQ
              injection e0 with ea eb
              have ea := ea.symm
              have eb := eb.symm
              subst ea
              subst eb
              have TQ := TP
              have TO2 := TO
              have B2 := BB
              obtain ⟨Bq, hBq⟩ : ∃ Bq, Bq = Bp := ⟨_, rfl⟩
              obtain ⟨gq, hgq⟩ : ∃ gq, gq = gp := ⟨_, rfl⟩
              obtain ⟨cq, hcq⟩ : ∃ cq, cq = cp := ⟨_, rfl⟩
              subst hBq
              subst hgq
              subst hcq
              go_wp2_with (first
          | (go_at_call 166; refine (overFact k ((0 : Nat) : Int) f AF.out _).mono ?_; rintro e w3 ⟨rfl, hb⟩; have TQ3 := Aside0.mk (TQ.out.below hb); have TO3 := Aside0.mk (TO2.out.below hb); have B3 := Aside0.mk (below_step B2.out hb); clear hb)
          | (go_at_call 177; refine (scaled k d (N : Int) ws HK.out h1 h2 w.heap.size Bq gq cq q1 q2 hq 1 f (s1, s2) AS.out _ TQ3.out).mono ?_; rintro e w4 ⟨Bs, gs, cs, rfl, ht, hb⟩; have TS4 := Aside0.mk (ht.lower (base' := w.heap.size) (below_size B3.out)); have TQ4 := Aside0.mk (TQ3.out.below hb); have TO4 := Aside0.mk (TO3.out.below hb); have B4 := Aside0.mk (below_step B3.out hb); clear ht hb)
          | (go_at_call 176; refine (sum k d (N : Int) ws HK.out h1 h2 w.heap.size Bo go co os bo hol w.heap.size Bs gs cs s1 s2 hs1 (o1, o2) AO.out _ TO4.out TS4.out).mono ?_; rintro e w5 ⟨Br, gr, cr, rfl, ht, hb⟩; have TR5 := Aside0.mk (ht.lower (base' := w.heap.size) (below_size B4.out)); have TQ5 := Aside0.mk (TQ4.out.below hb); have B5 := Aside0.mk (below_step B4.out hb); clear ht hb))
              exact ⟨⟨1, _, _, _, _, Br, gr, cr, Bq, gq, cq, by omega, rfl, rfl, by go_num, HN, ⟨ho1⟩, ⟨hq⟩, TR5, TQ5, B5⟩, by simp [intOf]⟩
            · have AQ := Aside0.mk (show timesO k d ps ts ws (List.replicate ws.length ⟨0, 1⟩) (bp || bt) = some (q1, q2) from by rw [nextP, if_neg hz] at AQ; exact AQ)
              have c5 : decide ((i : Int) > 0) = true := decide_eq_true (by omega)
              have c6 : (0 < (i : Int)) = True := eq_true (by omega)
              have c7 : (0 < i) = True := eq_true (by omega)
              go_wp2_with (first
          | (go_at_call 90; refine (times k d (N : Int) ws HK.out h1 h2 HX.out w.heap.size Bp gp cp ps bp base B g cap ts bt (q1, q2) AQ.out _ TP.out (HT.out.below BB.out)).mono ?_; rintro e w2 ⟨Bq, gq, cq, rfl, ht, hb⟩; have TQ := Aside0.mk (ht.lower (base' := w.heap.size) (below_size BB.out)); have TO2 := Aside0.mk (TO.out.below hb); have B2 := Aside0.mk (below_step BB.out hb); clear ht hb)
          | (go_at_call 166; refine (overFact k (i : Int) f AF.out _).mono ?_; rintro e w3 ⟨rfl, hb⟩; have TQ3 := Aside0.mk (TQ.out.below hb); have TO3 := Aside0.mk (TO2.out.below hb); have B3 := Aside0.mk (below_step B2.out hb); clear hb)
          | (go_at_call 177; refine (scaled k d (N : Int) ws HK.out h1 h2 w.heap.size Bq gq cq q1 q2 hq 1 f (s1, s2) AS.out _ TQ3.out).mono ?_; rintro e w4 ⟨Bs, gs, cs, rfl, ht, hb⟩; have TS4 := Aside0.mk (ht.lower (base' := w.heap.size) (below_size B3.out)); have TQ4 := Aside0.mk (TQ3.out.below hb); have TO4 := Aside0.mk (TO3.out.below hb); have B4 := Aside0.mk (below_step B3.out hb); clear ht hb)
          | (go_at_call 176; refine (sum k d (N : Int) ws HK.out h1 h2 w.heap.size Bo go co os bo hol w.heap.size Bs gs cs s1 s2 hs1 (o1, o2) AO.out _ TO4.out TS4.out).mono ?_; rintro e w5 ⟨Br, gr, cr, rfl, ht, hb⟩; have TR5 := Aside0.mk (ht.lower (base' := w.heap.size) (below_size B4.out)); have TQ5 := Aside0.mk (TQ4.out.below hb); have B5 := Aside0.mk (below_step B4.out hb); clear ht hb))
              exact ⟨⟨i + 1, _, _, _, _, Br, gr, cr, Bq, gq, cq, by omega, rfl, rfl, by go_num, HN, ⟨ho1⟩, ⟨hq⟩, TR5, TQ5, B5⟩, by simp [intOf]; omega⟩
          · rw [if_neg ho1] at H
            exact absurd H (by simp)
        · rw [if_neg hs1] at H
          exact absurd H (by simp)
      · rw [if_neg hq] at H
        exact absurd H (by simp)
    · obtain rfl : i = N + 1 := by omega
      have H := H.out
      rw [Nat.sub_self] at H
      simp only [powersL] at H
      cases H
      have c1 : decide (((N + 1 : Nat) : Int) < wrap64 ((N : Int) + 1)) = false := by rw [wrap_small N hN]; exact decide_eq_false (by omega)
      have c2 : (((N : Int) + 1) < wrap64 ((N : Int) + 1)) = False := eq_false (by rw [wrap_small N hN]; omega)
      have c8 : decide (((N + 1 : Nat) : Int) < (N : Int) + 1) = false := decide_eq_false (by omega)
      go_wp2
      exact bodyPost_ret (results_tmp rfl _ _ _) rfl ⟨Bo, rfl, ⟨go, co, TO.out⟩, BB.out⟩
set_option maxHeartbeats 4000000 in
theorem exponential (k : Nat) (d : Int) (N : Nat) (hN : N ≤ 1000) (ws : List ByteArray) (hk : impl_allWords.f k d (N : Int) = some ws) (h1 : 1 ≤ ws.length) (h2 : ws.length ≤ 1000) (hx : ∀ x ∈ ws, x.size ≤ 1000) (base B g cap : Nat) (ts : List S27) (bt : Bool) (hl : ts.length = ws.length) (r : List S27 × Bool) (hs : powersL k d ws ts bt (N + 1) 0 (List.replicate ws.length ⟨0, 1⟩) false (unitV ws.length) false = some r) (w : World) (h : Tab w base B g cap d (N : Int) ts bt) :
    Calls Try.prog 139 #[.pointer (some ⟨B, 0, none⟩)] w fun e w' => ∃ Bo go co, e = .returned (.pointer (some ⟨Bo, 0, none⟩)) ∧ Tab w' w.heap.size Bo go co d (N : Int) r.1 r.2 ∧ Below w.heap.size w w' := by
  have HP := Aside0.mk (powers k d N hN ws hk h1 h2 hx base B g cap ts bt hl r hs w h)
  clear hk hx hs h
  go_enter Try.func139, Try.ntmps139
  go_wp2_with (go_at_call 165; refine HP.out.mono ?_; rintro e w1 ⟨Bo, go, co, rfl, ht, hb⟩)
  exact bodyPost_ret (results_tmp rfl _ _ _) rfl ⟨Bo, go, co, rfl, ht, hb⟩
end Go.Proofs.Ytcklefgkbddlhaa.Tab
