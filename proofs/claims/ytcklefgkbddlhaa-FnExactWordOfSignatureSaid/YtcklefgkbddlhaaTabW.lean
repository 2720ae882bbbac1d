/- Plain lemmas and contracts of this session, of which the parts' own heads tell. -/
import Derived.Test.YtcklefgkbddlhaaPx16
import Derived.Test.YtcklefgkbddlhaaTabK
import Derived.Test.YtcklefgkbddlhaaTabL
import Derived.Test.YtcklefgkbddlhaaTabX
import Derived.Test.YtcklefgkbddlhaaPx12
import Derived.Test.YtcklefgkbddlhaaPx14
/- The exponential of a table: what calls of powers (from 0 on, with the factorials) and of exponential come to. -/
namespace Go.Proofs.Ytcklefgkbddlhaa.Tab
open Go.RowKit Go.Proofs.Ytcklefgkbddlhaa.P Go.Proofs.YtcklefgkbddlhaaW.PrintWords Go.Proofs.YtcklefgkbddlhaaW.PrintLast Go.Proofs.YtcklefgkbddlhaaW.PrintMore
set_option linter.unusedVariables false
set_option linter.unusedSimpArgs false

set_option maxHeartbeats 4000000 in
theorem overFact (k : Nat) (a f : Int) (h : impl_factorial.f k a = some f) (w : World) :
    Calls Try.prog 166 #[.int .i64 a] w fun e w' => e = .returned (.agg #[.int .i64 1, .int .i64 f]) ∧ Below w.heap.size w w' := by
  have H := zA h
  clear h
  have B0 := zA (below_alloc (Below.refl w.heap.size w) (.cells #[.int .i64 0, .int .i64 0] 27))
  have R0 := zA (blk_new w (.cells #[.int .i64 0, .int .i64 0] 27))
  go_enter Try.func166, Try.ntmps166
  go_wp2_with (go_at_call 167; refine (impl_factorial.calls k a f _ H.out).mono ?_; rintro e w1 ⟨rfl, hd⟩; have hb := of_drawn hd; have hr := (hb.block w.heap.size (blk_lt R0.out)).trans R0.out; have r0 : w1.cell? ⟨w.heap.size, 0, none⟩ = some (.int .i64 0) := (blk_cell hr 0).trans rfl; have r1 : w1.cell? ⟨w.heap.size, 1, none⟩ = some (.int .i64 0) := (blk_cell hr 1).trans rfl; have f0 := blk_frozen hr 0; have f1 := blk_frozen hr 1; have HR := zA hr; have B1 := zA (below_step B0.out hb); clear hb hd hr)
  refine bodyPost_ret (results_cell_row rfl _ _ w.heap.size 27 #[.int .i64 1, .int .i64 f] (0, 0) _ rfl (blk_put (cs := #[.int .i64 1, .int .i64 0]) (blk_put (cs := #[.int .i64 0, .int .i64 0]) HR.out 0 _ rfl) 1 _ rfl) Try.underlying27 rfl (by kernel_rfl)) rfl ?_
  exact ⟨rfl, below_set (below_set B1.out (Nat.le_refl _)) (Nat.le_refl _)⟩
/-- One power more, from k = 1 on. -/
def nextP (k : Nat) (d : Int) (ws : List ByteArray) (ts : List S27) (bt : Bool) (i : Nat) (ps : List S27) (bp : Bool) : Option (List S27 × Bool) :=
  if i = 0 then some (ps, bp) else timesO k d ps ts ws (List.replicate ws.length ⟨0, 1⟩) (bp || bt)
/-- The sum of the powers over the factorials: the values, the last power's values. -/
def powersL (k : Nat) (d : Int) (ws : List ByteArray) (ts : List S27) (bt : Bool) : Nat → Nat → List S27 → Bool → List S27 → Bool → Option (List S27 × Bool)
  | 0, _, os, bo, _, _ => some (os, bo)
  | e + 1, i, os, bo, ps, bp => (nextP k d ws ts bt i ps bp).bind fun p => if p.1.length = ws.length then (impl_factorial.f k (i : Int)).bind fun f =>
      (scaledL k p.1 1 f ws.length 0 (List.replicate ws.length ⟨0, 1⟩) p.2).bind fun s => if s.1.length = ws.length then (sumL k os s.1 ws.length 0 (List.replicate ws.length ⟨0, 1⟩) (bo || s.2)).bind fun o => if o.1.length = ws.length then powersL k d ws ts bt e (i + 1) o.1 o.2 p.1 p.2 else none else none else none
set_option maxHeartbeats 16000000 in
set_option maxRecDepth 100000 in
theorem powers (k : Nat) (d : Int) (N : Nat) (hN : N ≤ 1000) (ws : List ByteArray) (hk : impl_allWords.f k d (N : Int) = some ws) (h1 : 1 ≤ ws.length) (h2 : ws.length ≤ 1000) (hx : ∀ x ∈ ws, x.size ≤ 1000) (base B g cap : Nat) (ts : List S27) (bt : Bool) (hl : ts.length = ws.length) (r : List S27 × Bool) (hs : powersL k d ws ts bt (N + 1) 0 (List.replicate ws.length ⟨0, 1⟩) false (unitV ws.length) false = some r) (w : World) (h : Tab w base B g cap d (N : Int) ts bt) :
    Calls Try.prog 165 #[.pointer (some ⟨B, 0, none⟩), .int .i64 0, .func (.func 166) #[] #[]] w fun e w' => ∃ Bo go co, e = .returned (.pointer (some ⟨Bo, 0, none⟩)) ∧ Tab w' w.heap.size Bo go co d (N : Int) r.1 r.2 ∧ Below w.heap.size w w' := by
  have HT := zA h
  have HK := zA hk
  have HX := zA hx
  have H := zA hs
  have HL := zA hl
  clear h hk hx hs hl
  go_enter Try.func165, Try.ntmps165
  go_wp2_with (first
    | (go_at_call 133; refine (like k d (N : Int) ws HK.out h1 h2 base B g cap ts bt _ HT.out).mono ?_; rintro e w1 ⟨Bo, go, co, rfl, ht, hb⟩; have TO1 := zA ht; have B1 := zA hb; clear ht hb)
    | (go_at_call 86; refine (unit k d (N : Int) ws HK.out h1 h2 base B g cap ts bt _ (HT.out.below B1.out)).mono ?_; rintro e w2 ⟨Bp, gp, cp, rfl, ht, hb⟩; have TP2 := zA (ht.lower (base' := w.heap.size) (below_size B1.out)); have TO2 := zA (TO1.out.below hb); have B2 := zA (below_step B1.out hb); have x1 := (HT.out.below B2.out).cells.2.1; clear ht hb TO1 B1))
  clear x1
  go_loopw [7, 8, 19] (fun s7 s8 s19 wr => ∃ (i : Nat) (os : List S27) (bo : Bool) (ps : List S27) (bp : Bool) (Bo go co Bp gp cp : Nat), i ≤ N + 1 ∧ s7 = .pointer (some ⟨Bo, 0, none⟩) ∧ s8 = .pointer (some ⟨Bp, 0, none⟩) ∧ s19 = .int .i64 i ∧ Aside0 (powersL k d ws ts bt (N + 1 - i) i os bo ps bp = some r) ∧ Aside0 (os.length = ws.length) ∧ Aside0 (ps.length = ws.length) ∧ Aside0 (Tab wr w.heap.size Bo go co d (N : Int) os bo) ∧ Aside0 (Tab wr w.heap.size Bp gp cp d (N : Int) ps bp) ∧ Aside0 (Below w.heap.size w wr)) (fun _ _ s19 _ => N + 1 - (intOf s19).toNat)
  case atStart => exact ⟨0, _, _, _, _, Bo, go, co, Bp, gp, cp, Nat.zero_le _, rfl, rfl, rfl, H, ⟨by simp⟩, ⟨unitV_length _⟩, TO2, TP2, B2⟩
  case round =>
    clear H TO2 TP2 B2
    obtain ⟨i, os, bo, ps, bp, Bo, go, co, Bp, gp, cp, hi, rfl, rfl, rfl, H, HLo, HLp, TO, TP, BB⟩ := hrel
    have hol := HLo.out
    by_cases hit : i < N + 1
    · have H := H.out
      obtain ⟨e', he'⟩ : ∃ e', N + 1 - i = e' + 1 := ⟨N + 1 - i - 1, by omega⟩
      rw [he'] at H
      simp only [powersL] at H
      rw [show e' = N + 1 - (i + 1) from by omega] at H
      obtain ⟨⟨q1, q2⟩, AQ, H⟩ := Option.bind_eq_some_iff.mp H
      by_cases hq : q1.length = ws.length
      · rw [if_pos hq] at H
        obtain ⟨f, AF, H⟩ := Option.bind_eq_some_iff.mp H
        obtain ⟨⟨s1, s2⟩, AS, H⟩ := Option.bind_eq_some_iff.mp H
        by_cases hs1 : s1.length = ws.length
        · rw [if_pos hs1] at H
          obtain ⟨⟨o1, o2⟩, AO, H⟩ := Option.bind_eq_some_iff.mp H
          by_cases ho1 : o1.length = ws.length
          · rw [if_pos ho1] at H
            have AF := zA AF
            have AS := zA AS
            have AO := zA AO
            have HN := zA H
            clear H
            have c1 : decide ((i : Int) < wrap64 ((N : Int) + 1)) = true := by rw [wrap_small N hN]; exact decide_eq_true (by omega)
            have c2 : ((i : Int) < wrap64 ((N : Int) + 1)) = True := eq_true (of_decide_eq_true c1)
            have c8 : decide ((i : Int) < (N : Int) + 1) = true := decide_eq_true (by omega)
            have c9 : ((i : Int) < (N : Int) + 1) = True := eq_true (by omega)
            have c3 : decide ((i : Int) ≥ 0) = true := decide_eq_true (by omega)
            have c4 : (0 ≤ (i : Int)) = True := eq_true (by omega)
            by_cases hz : i = 0
            · subst hz
              have e0 : (ps, bp) = (q1, q2) := Option.some.inj AQ
              injection e0 with ea eb
              have ea := ea.symm
              have eb := eb.symm
              subst ea
              subst eb
              have TQ := TP
              have TO2 := TO
              have B2 := BB
              obtain ⟨Bq, hBq⟩ : ∃ Bq, Bq = Bp := ⟨_, rfl⟩
              obtain ⟨gq, hgq⟩ : ∃ gq, gq = gp := ⟨_, rfl⟩
              obtain ⟨cq, hcq⟩ : ∃ cq, cq = cp := ⟨_, rfl⟩
              subst hBq
              subst hgq
              subst hcq
              go_wp2_with (first
          | (go_at_call 166; refine (overFact k ((0 : Nat) : Int) f AF.out _).mono ?_; rintro e w3 ⟨rfl, hb⟩; have TQ3 := zA (TQ.out.below hb); have TO3 := zA (TO2.out.below hb); have B3 := zA (below_step B2.out hb); clear hb)
          | (go_at_call 177; refine (scaled k d (N : Int) ws HK.out h1 h2 w.heap.size Bq gq cq q1 q2 hq 1 f (s1, s2) AS.out _ TQ3.out).mono ?_; rintro e w4 ⟨Bs, gs, cs, rfl, ht, hb⟩; have TS4 := zA (ht.lower (base' := w.heap.size) (below_size B3.out)); have TQ4 := zA (TQ3.out.below hb); have TO4 := zA (TO3.out.below hb); have B4 := zA (below_step B3.out hb); clear ht hb)
          | (go_at_call 176; refine (sum k d (N : Int) ws HK.out h1 h2 w.heap.size Bo go co os bo hol w.heap.size Bs gs cs s1 s2 hs1 (o1, o2) AO.out _ TO4.out TS4.out).mono ?_; rintro e w5 ⟨Br, gr, cr, rfl, ht, hb⟩; have TR5 := zA (ht.lower (base' := w.heap.size) (below_size B4.out)); have TQ5 := zA (TQ4.out.below hb); have B5 := zA (below_step B4.out hb); clear ht hb))
              exact ⟨⟨1, _, _, _, _, Br, gr, cr, Bq, gq, cq, by omega, rfl, rfl, by go_num, HN, ⟨ho1⟩, ⟨hq⟩, TR5, TQ5, B5⟩, by simp [intOf]⟩
            · have AQ := zA (show timesO k d ps ts ws (List.replicate ws.length ⟨0, 1⟩) (bp || bt) = some (q1, q2) from by rw [nextP, if_neg hz] at AQ; exact AQ)
              have c5 : decide ((i : Int) > 0) = true := decide_eq_true (by omega)
              have c6 : (0 < (i : Int)) = True := eq_true (by omega)
              have c7 : (0 < i) = True := eq_true (by omega)
              go_wp2_with (first
          | (go_at_call 90; refine (times k d (N : Int) ws HK.out h1 h2 HX.out w.heap.size Bp gp cp ps bp base B g cap ts bt (q1, q2) AQ.out _ TP.out (HT.out.below BB.out)).mono ?_; rintro e w2 ⟨Bq, gq, cq, rfl, ht, hb⟩; have TQ := zA (ht.lower (base' := w.heap.size) (below_size BB.out)); have TO2 := zA (TO.out.below hb); have B2 := zA (below_step BB.out hb); clear ht hb)
          | (go_at_call 166; refine (overFact k (i : Int) f AF.out _).mono ?_; rintro e w3 ⟨rfl, hb⟩; have TQ3 := zA (TQ.out.below hb); have TO3 := zA (TO2.out.below hb); have B3 := zA (below_step B2.out hb); clear hb)
          | (go_at_call 177; refine (scaled k d (N : Int) ws HK.out h1 h2 w.heap.size Bq gq cq q1 q2 hq 1 f (s1, s2) AS.out _ TQ3.out).mono ?_; rintro e w4 ⟨Bs, gs, cs, rfl, ht, hb⟩; have TS4 := zA (ht.lower (base' := w.heap.size) (below_size B3.out)); have TQ4 := zA (TQ3.out.below hb); have TO4 := zA (TO3.out.below hb); have B4 := zA (below_step B3.out hb); clear ht hb)
          | (go_at_call 176; refine (sum k d (N : Int) ws HK.out h1 h2 w.heap.size Bo go co os bo hol w.heap.size Bs gs cs s1 s2 hs1 (o1, o2) AO.out _ TO4.out TS4.out).mono ?_; rintro e w5 ⟨Br, gr, cr, rfl, ht, hb⟩; have TR5 := zA (ht.lower (base' := w.heap.size) (below_size B4.out)); have TQ5 := zA (TQ4.out.below hb); have B5 := zA (below_step B4.out hb); clear ht hb))
              exact ⟨⟨i + 1, _, _, _, _, Br, gr, cr, Bq, gq, cq, by omega, rfl, rfl, by go_num, HN, ⟨ho1⟩, ⟨hq⟩, TR5, TQ5, B5⟩, by simp [intOf]; omega⟩
          · rw [if_neg ho1] at H
            exact absurd H (by simp)
        · rw [if_neg hs1] at H
          exact absurd H (by simp)
      · rw [if_neg hq] at H
        exact absurd H (by simp)
    · obtain rfl : i = N + 1 := by omega
      have H := H.out
      rw [Nat.sub_self] at H
      simp only [powersL] at H
      cases H
      have c1 : decide (((N + 1 : Nat) : Int) < wrap64 ((N : Int) + 1)) = false := by rw [wrap_small N hN]; exact decide_eq_false (by omega)
      have c2 : (((N : Int) + 1) < wrap64 ((N : Int) + 1)) = False := eq_false (by rw [wrap_small N hN]; omega)
      have c8 : decide (((N + 1 : Nat) : Int) < (N : Int) + 1) = false := decide_eq_false (by omega)
      go_wp2
      exact bodyPost_ret (results_tmp rfl _ _ _) rfl ⟨Bo, rfl, ⟨go, co, TO.out⟩, BB.out⟩
set_option maxHeartbeats 4000000 in
theorem exponential (k : Nat) (d : Int) (N : Nat) (hN : N ≤ 1000) (ws : List ByteArray) (hk : impl_allWords.f k d (N : Int) = some ws) (h1 : 1 ≤ ws.length) (h2 : ws.length ≤ 1000) (hx : ∀ x ∈ ws, x.size ≤ 1000) (base B g cap : Nat) (ts : List S27) (bt : Bool) (hl : ts.length = ws.length) (r : List S27 × Bool) (hs : powersL k d ws ts bt (N + 1) 0 (List.replicate ws.length ⟨0, 1⟩) false (unitV ws.length) false = some r) (w : World) (h : Tab w base B g cap d (N : Int) ts bt) :
    Calls Try.prog 139 #[.pointer (some ⟨B, 0, none⟩)] w fun e w' => ∃ Bo go co, e = .returned (.pointer (some ⟨Bo, 0, none⟩)) ∧ Tab w' w.heap.size Bo go co d (N : Int) r.1 r.2 ∧ Below w.heap.size w w' := by
  have HP := zA (powers k d N hN ws hk h1 h2 hx base B g cap ts bt hl r hs w h)
  clear hk hx hs h
  go_enter Try.func139, Try.ntmps139
  go_wp2_with (go_at_call 165; refine HP.out.mono ?_; rintro e w1 ⟨Bo, go, co, rfl, ht, hb⟩)
  exact bodyPost_ret (results_tmp rfl _ _ _) rfl ⟨Bo, go, co, rfl, ht, hb⟩
/-- The values of a step behind so many letters. -/
def stepF (m : Nat) (l : List Int) : Nat → List S27
  | 0 => List.replicate m ⟨0, 1⟩
  | i + 1 => (stepF m l i).set (1 + i) ⟨rd l (i : Int), 1⟩
theorem stepF_length (m : Nat) (l : List Int) : ∀ i, (stepF m l i).length = m
  | 0 => by simp [stepF]
  | i + 1 => by rw [stepF, List.length_set, stepF_length m l i]
set_option maxHeartbeats 16000000 in
set_option maxRecDepth 100000 in
theorem stepSignature (k : Nat) (d : Int) (N : Nat) (hN : N ≤ 1000) (ws : List ByteArray) (hk : impl_allWords.f k d (N : Int) = some ws) (h1 : 1 ≤ ws.length) (h2 : ws.length ≤ 1000) (hx : ∀ x ∈ ws, x.size ≤ 1000) (A : Option Addr) (c : Nat) (l : List Int) (hl : l.length + 1 ≤ ws.length) (r : List S27 × Bool) (hs : powersL k d ws (stepF ws.length l l.length) false (N + 1) 0 (List.replicate ws.length ⟨0, 1⟩) false (unitV ws.length) false = some r) (w : World) (hr : Kd.C (Kd.int .i64) w A l.length l) :
    Calls Try.prog 91 #[.int .i64 d, .int .i64 (N : Int), .slice A l.length c] w fun e w' => ∃ Bo go co, e = .returned (.pointer (some ⟨Bo, 0, none⟩)) ∧ Tab w' w.heap.size Bo go co d (N : Int) r.1 r.2 ∧ Below w.heap.size w w' := by
  have HK := zA hk
  have HX := zA hx
  have HS := zA hs
  have HR := zA hr
  clear hk hx hs hr
  go_enter Try.func91, Try.ntmps91
  go_wp2_with (go_at_call 85; refine (newTable k d (N : Int) ws HK.out h1 h2 _).mono ?_; rintro e w1 ⟨B, g, cap, rfl, ht, hb⟩; have T1 := zA ht; have B1 := zA hb; have hB : w.heap.size ≤ B := ht.hB; have hg : w.heap.size ≤ g := ht.hg; have hne : B ≠ g := ht.ne; clear ht hb)
  go_loopw [15] (fun s15 wr => ∃ i : Nat, i ≤ l.length ∧ s15 = .int .i64 i ∧ Aside0 (Tab wr w.heap.size B g cap d (N : Int) (stepF ws.length l i) false) ∧ Aside0 (Below w.heap.size w wr)) (fun s15 _ => l.length - (intOf s15).toNat)
  case atStart => exact ⟨0, Nat.zero_le _, rfl, T1, B1⟩
  case round =>
    clear T1 B1
    obtain ⟨i, hi, rfl, HT, BB⟩ := hrel
    by_cases hlt : i < l.length
    · have hltz : (i : Int) < (l.length : Int) := by omega
      obtain ⟨ad, eA, x0⟩ := Kd.at_int HR.out (i : Int) (by omega) hltz
      subst eA
      rw [Int.toNat_natCast] at x0
      replace x0 := (BB.out.cell (World.block_lt_of_cell? w _ x0)).trans x0
      have p1 : (0 ≤ (i : Int)) = True := eq_true (by omega)
      have p2 : ((i : Int) < (l.length : Int)) = True := eq_true hltz
      have p3 : (i < l.length) = True := eq_true hlt
      have x2 := HT.out.cells.2.2.1
      rw [stepF_length] at x2
      have q1 : (0 ≤ 1 + (i : Int)) = True := eq_true (by omega)
      have q2 : (1 + (i : Int) < (ws.length : Int)) = True := eq_true (by omega)
      have q3 : (1 + i < ws.length) = True := eq_true (by omega)
      have q4 : (1 + (i : Int)).toNat = 1 + i := by omega
      go_wp2_with fail
      have hwi : IntKind.i64.wrap (1 + (i : Int)) = 1 + (i : Int) := by
        rw [i64_w]
        unfold wrap64
        omega
      refine wp_region_noPanic ?_
      refine wp_region_held_drew (S := (fun w' => w'.cell? ⟨B, 2, none⟩ = some (.slice (some ⟨g, 0, none⟩) ws.length cap))) (by kernel_rfl) ?_ (fun hHeld => ?_)
      · (try dsimp only)
        (exact pw_cell_below (below_drew (Below.refl _ _)) x2)
      refine wpAnyH_take (i := 0) (v := ?v0) rfl (by kernel_rfl) (by kernel_rfl) (by kernel_rfl) (fun _ _ _ h => h) (Or.inl ⟨by rfl, ?hy0⟩) (by assumption) ?rest0
      case hy0 => (intro w hSw; (try dsimp only at hSw); go_simp; try (with_reducible rfl))
      (try simp only [Act.put, List.setIfInBounds_toArray, List.set])
      refine wpAnyH_take (i := 1) (v := ?v1) rfl (by kernel_rfl) (by kernel_rfl) (by kernel_rfl) (fun _ _ _ h => h) (Or.inl ⟨by rfl, ?hy1⟩) (by assumption) ?rest1
      case hy1 => (intro w hSw; (try dsimp only at hSw); go_simp; try (with_reducible rfl))
      (try simp only [Act.put, List.setIfInBounds_toArray, List.set])
      refine wpAnyH_take (i := 2) (v := ?v2) rfl (by kernel_rfl) (by kernel_rfl) (by kernel_rfl) (fun _ _ _ h => h) (Or.inl ⟨by rfl, ?hy2⟩) (by assumption) ?rest2
      case hy2 => (intro w hSw; (try dsimp only at hSw); go_simp; try (with_reducible rfl))
      (try simp only [Act.put, List.setIfInBounds_toArray, List.set])
      refine wpAnyH_take (i := 3) (v := ?v3) rfl (by kernel_rfl) (by kernel_rfl) (by kernel_rfl) (fun _ _ _ h => h) (Or.inl ⟨by rfl, ?hy3⟩) (by assumption) ?rest3
      case hy3 => (intro w hSw; (try dsimp only at hSw); go_simp; try (with_reducible rfl))
      (try simp only [Act.put, List.setIfInBounds_toArray, List.set])
      refine wpAnyH_take (i := 4) (v := ?v4) rfl (by kernel_rfl) (by kernel_rfl) (by kernel_rfl) (fun _ _ _ h => h) (Or.inl ⟨by rfl, ?hy4⟩) (by assumption) ?rest4
      case hy4 => (intro w hSw; (try dsimp only at hSw); go_simp; try (with_reducible rfl))
      (try simp only [Act.put, List.setIfInBounds_toArray, List.set])
      refine wpAnyH_take (i := 5) (v := ?v5) rfl (by kernel_rfl) (by kernel_rfl) (by kernel_rfl) (fun _ _ _ h => h) (Or.inl ⟨by rfl, ?hy5⟩) (by assumption) ?rest5
      case hy5 => (intro w hSw; (try dsimp only at hSw); go_simp; try (with_reducible rfl))
      (try simp only [Act.put, List.setIfInBounds_toArray, List.set])
      refine wpAnyH_take (i := 6) (v := ?v6) rfl (by kernel_rfl) (by kernel_rfl) (by kernel_rfl) (fun _ _ _ h => h) (Or.inl ⟨by rfl, ?hy6⟩) (by assumption) ?rest6
      case hy6 => (intro w hSw; (try dsimp only at hSw); go_simp; try (with_reducible rfl))
      (try simp only [Act.put, List.setIfInBounds_toArray, List.set])
      refine wpAnyH_ready (rs := [7]) (by kernel_rfl) (by simp) ?_
      refine AllReadyH.cons rfl (fun K hK => ?_) AllReadyH.nil
      go_simp
      (go_at_call 134; refine (impl_whole.calls (rd l (i : Int)) (rd l (i : Int)) 1 _ rfl).mono ?_; rintro e w2 ⟨rfl, hb2⟩; have HT2 := zA ((HT.out.below (below_drew (Below.refl _ _))).below hb2); have hx2 := HT2.out.cells.2.2.1; rw [stepF_length] at hx2; obtain ⟨v0, v1, vf⟩ := HT2.out.val (1 + (i : Int)) (by omega) (by rw [stepF_length]; omega); rw [q4] at v0 v1; have vf0 := vf ((1 + i) * 2); have vf1 := vf ((1 + i) * 2 + 1))
      refine hK.out _ _ ?_ (fun hHeld => ?_)
      · (try dsimp only)
        (exact hx2)
      clear hK K
      (try simp only [Act.put, List.setIfInBounds_toArray, List.set])
      refine wpAnyH_take (i := 8) (v := ?v7) rfl (by kernel_rfl) (by kernel_rfl) (by kernel_rfl) (fun _ _ _ h => h) (Or.inl ⟨by rfl, ?hy7⟩) (by assumption) ?rest7
      case hy7 => (intro w hSw; (try dsimp only at hSw); go_simp; try (with_reducible rfl))
      (try simp only [Act.put, List.setIfInBounds_toArray, List.set])
      refine wpAnyH_ready (rs := [9]) (by kernel_rfl) (by simp) ?_
      refine AllReadyH.cons rfl (fun K hK => ?_) AllReadyH.nil
      go_simp
      refine hK.out _ _ ?_ (fun hHeld => ?_)
      · (try dsimp only)
        (exact cell_far hne (cell_far hne hx2))
      clear hK K
      (try simp only [Act.put, List.setIfInBounds_toArray, List.set])
      refine wpAnyH_done (by kernel_rfl) ?_ _
      refine NoPanic.normal ?_
      go_wp2
      have hp := HT2.out.put (1 + (i : Int)) (by omega) (by rw [stepF_length]; omega) (rd l (i : Int)) 1
      rw [q4] at hp
      exact ⟨⟨i + 1, by omega, by go_num, ⟨hp⟩, ⟨below_set (below_set (below_step (below_drew BB.out) hb2) hg) hg⟩⟩, by simp [intOf]; omega⟩
    · obtain rfl : i = l.length := by omega
      have hb0 := BB.out.size
      go_wp2_with (go_at_call 139; refine (exponential k d N hN ws HK.out h1 h2 HX.out w.heap.size B g cap _ false (stepF_length _ _ _) r HS.out _ HT.out).mono ?_; rintro e w3 ⟨Bo, go, co, rfl, ht, hb⟩)
      exact bodyPost_ret (results_tmp rfl _ _ _) rfl ⟨Bo, go, co, rfl, ht.lower hb0, below_step BB.out hb⟩
/-- A pointer to a table. -/
def kTab (d n : Int) : Kd (List S27 × Bool) where
  sz := 1
  E := [147, 27]
  K w x cs := ∃ base B g cap, cs = [.pointer (some ⟨B, 0, none⟩)] ∧ Tab w base B g cap d n x.1 x.2
  M w base ok x cs := ∃ B g cap, cs = [.pointer (some ⟨B, 0, none⟩)] ∧ ok B ∧ ok g ∧ Tab w base B g cap d n x.1 x.2
  K_len := by rintro w x cs ⟨base, B, g, cap, rfl, _⟩; rfl
  K_one := by rintro w x cs ⟨base, B, g, cap, rfl, _⟩ u hu; rw [List.mem_singleton.1 hu]; rfl
  K_below := by rintro w w1 x cs hb ⟨base, B, g, cap, rfl, h⟩; exact ⟨base, B, g, cap, rfl, h.below hb⟩
  K_of_M := by rintro w base ok x cs ⟨B, g, cap, rfl, _, _, h⟩; exact ⟨base, B, g, cap, rfl, h⟩
  M_mono := by rintro w base ok ok' x cs hk ⟨B, g, cap, rfl, h1, h2, h⟩; exact ⟨B, g, cap, rfl, hk B h1, hk g h2, h⟩
  M_bound := by
    rintro w base ok x cs ⟨B, g, cap, rfl, h1, h2, h⟩
    refine ⟨B, g, cap, rfl, ⟨h1, h.hB, h.ltB, 147, by simp, _, h.head⟩, ⟨h2, h.hg, h.lt, 27, by simp, ?_⟩, h⟩
    exact h.typed
  M_move := by rintro w w1 base ok x cs hm ⟨B, g, cap, rfl, h1, h2, h⟩; exact ⟨B, g, cap, rfl, h1, h2, h.move (fun k hk => hm k (by rcases hk with rfl | rfl; exact h1; exact h2))⟩
  M_lower := by rintro w base base' ok x cs hb ⟨B, g, cap, rfl, h1, h2, h⟩; exact ⟨B, g, cap, rfl, h1, h2, h.lower hb⟩
/-- A reader: a word with its table. -/
def kRdr (d n : Int) : Kd (List Int × (List S27 × Bool)) := Kd.pair (Kd.slice 2 (Kd.int .i64)) (kTab d n)
/-- The word of the first reader whose series is this one. -/
def findR (k : Nat) (d n : Int) (ws : List ByteArray) (l : List S89) : List (List Int × (List S27 × Bool)) → Option (Option (List Int))
  | [] => some none
  | r :: rs => (impl_equalSeries.f k d n (termsOf ws r.2.1 ws.length) d n l).bind fun b => if b = true then some (some r.1) else findR k d n ws l rs
/-- Is a letter left out behind a word? -/
def outR (w : List Int) (q : Int) : Bool := decide (q = 0) || (decide (0 < w.length) && decide (rd w ((w.length : Int) - 1) = -q))
/-- The readers behind one reader, from a letter on. -/
def moreR (k : Nat) (d : Int) (N : Nat) (ws : List ByteArray) (r : List Int × (List S27 × Bool)) : Nat → Int → List (List Int × (List S27 × Bool)) → Option (List (List Int × (List S27 × Bool)))
  | 0, _, out => some out
  | e + 1, q, out => if outR r.1 q = true then moreR k d N ws r e (q + 1) out else
      (impl_pathOfWord.f k d [q]).bind fun p => if 1 ≤ p.length ∧ (rd_L9 p 0).length + 1 ≤ ws.length then
        (powersL k d ws (stepF ws.length (rd_L9 p 0) (rd_L9 p 0).length) false (N + 1) 0 (List.replicate ws.length ⟨0, 1⟩) false (unitV ws.length) false).bind fun x =>
          (timesO k d r.2.1 x.1 ws (List.replicate ws.length ⟨0, 1⟩) (r.2.2 || x.2)).bind fun o => if o.1.length = ws.length then moreR k d N ws r e (q + 1) (out ++ [(r.1 ++ [q], o)]) else none
      else none
def nextR (k : Nat) (d : Int) (N : Nat) (ws : List ByteArray) : List (List Int × (List S27 × Bool)) → List (List Int × (List S27 × Bool)) → Option (List (List Int × (List S27 × Bool)))
  | [], out => some out
  | r :: rs, out => (moreR k d N ws r (2 * d.toNat + 1) (-d) out).bind fun o => nextR k d N ws rs o
/-- The rounds: how many are left. -/
def roundsR (k : Nat) (d : Int) (N : Nat) (ws : List ByteArray) (l : List S89) : Nat → List (List Int × (List S27 × Bool)) → Option (List Int × Int)
  | 0, rs => (findR k d (N : Int) ws l rs).bind fun o => match o with | some w => some (w, 0) | none => some ([], 4)
  | e + 1, rs => (findR k d (N : Int) ws l rs).bind fun o => match o with | some w => some (w, 0) | none => (nextR k d N ws rs []).bind fun rs' => if rs'.length ≤ 100000 then roundsR k d N ws l e rs' else none
/-- The word, and the code. -/
def WordOfSignature_f (k : Nat) (a0 a1 : Int) (l : List S89) : Option (List Int × Int) :=
  (impl_IsSeries.f k a0 a1 l).bind fun b1 => if b1 = true then (impl_allWords.f k a0 a1).bind fun ws =>
    if 0 ≤ a0 ∧ a0 ≤ 3 ∧ 0 ≤ a1 ∧ 1 ≤ ws.length ∧ ws.length ≤ 1000 ∧ a1.toNat ≤ 1000 ∧ ∀ x ∈ ws, x.size ≤ 1000 then roundsR k a0 a1.toNat ws l a1.toNat [([], unitV ws.length, false)] else none
    else some ([], 1)
/-- A list that the program has made. -/
theorem rdr_open {d n : Int} {w : World} {base : Nat} {ok : Nat → Prop} {x : List Int × (List S27 × Bool)} {cs : List Value} (h : (kRdr d n).M w base ok x cs) : ∃ v B g cap, cs = [v, .pointer (some ⟨B, 0, none⟩)] ∧ Kd.R (Kd.int .i64) 2 w base ok v x.1 ∧ Tab w base B g cap d n x.2.1 x.2.2 ∧ ok B ∧ ok g := by
  obtain ⟨c0, c1, rfl, ⟨v, rfl, h0⟩, ⟨B, g, cap, rfl, h1, h2, h3⟩⟩ := h
  exact ⟨v, B, g, cap, rfl, h0, h3, h1, h2⟩
/-- A list of one element that has just been made. -/
theorem R_lit1 {α : Type} (d : Kd α) {W : World} {base e : Nat} {x : α} {cs : List Value} {ok okp : Nat → Prop} (hM : d.M W base okp x cs) (hl : cs.length = d.sz) (hok : ∀ k, okp k → ok k) (hfresh : ok W.heap.size) (hbase : base ≤ W.heap.size) :
    d.R e (W.alloc (.cells cs.toArray e)) base ok (.slice (some ⟨W.heap.size, 0, none⟩) 1 1) [x] := by
  have hrep : Reps (d.M W base okp) d.sz [x] cs := (Reps.none _ _).snoc hM hl
  refine ⟨fun k hk => ?_, cs, ?_, ?_⟩
  · have : W.heap.size = k := by simpa [Value.ownBlock] using hk
    subst this
    exact hfresh
  · have h2 := World.ownsRow_lit (base := base) (e := e) (size := d.sz) W cs.toArray 1 hbase (by simp [maxLen]) (by simpa using hl)
    simpa using h2
  · refine hrep.imp_ (fun p c hp => d.M_mono (fun k hk => ⟨hok k hk.1, fun he => ?_⟩) (d.M_move (fun k hk => ?_) (d.M_bound hp)))
    · have h3 : k = W.heap.size := by simpa [Value.ownBlock] using he
      have := hk.2.2.1
      omega
    · have := hk.2.2.1
      exact (below_alloc (Below.refl W.heap.size W) (.cells cs.toArray e)).block k this
theorem rdr_mk {d n : Int} {w : World} {base : Nat} {ok : Nat → Prop} {v : Value} {B g cap : Nat} {x : List Int × (List S27 × Bool)} (hv : Kd.R (Kd.int .i64) 2 w base ok v x.1) (hT : Tab w base B g cap d n x.2.1 x.2.2) (hB : ok B) (hg : ok g) : (kRdr d n).M w base ok x [v, .pointer (some ⟨B, 0, none⟩)] :=
  ⟨[v], [.pointer (some ⟨B, 0, none⟩)], rfl, ⟨v, rfl, hv⟩, ⟨B, g, cap, rfl, hB, hg, hT⟩⟩
/-- What readers a round makes. -/
theorem moreR_len {k : Nat} {d : Int} {N : Nat} {ws : List ByteArray} {r : List Int × (List S27 × Bool)} : ∀ {e : Nat} {q : Int} {out o : List (List Int × (List S27 × Bool))}, moreR k d N ws r e q out = some o → out.length ≤ o.length ∧ ((∀ x ∈ out, x.2.1.length = ws.length) → ∀ x ∈ o, x.2.1.length = ws.length)
  | 0, q, out, o, h => by
    simp only [moreR] at h
    obtain rfl := Option.some.inj h
    exact ⟨Nat.le_refl _, fun h => h⟩
  | e + 1, q, out, o, h => by
    simp only [moreR] at h
    split at h
    · exact moreR_len h
    · obtain ⟨p, _, h⟩ := Option.bind_eq_some_iff.mp h
      split at h
      · obtain ⟨x, _, h⟩ := Option.bind_eq_some_iff.mp h
        obtain ⟨y, _, h⟩ := Option.bind_eq_some_iff.mp h
        split at h
        · rename_i hy
          obtain ⟨h1, h2⟩ := moreR_len h
          rw [List.length_append, List.length_singleton] at h1
          refine ⟨by omega, fun ha => h2 fun z hz => ?_⟩
          rcases List.mem_append.1 hz with hz | hz
          · exact ha z hz
          · rw [List.mem_singleton.1 hz]
            exact hy
        · cases h
      · cases h
theorem nextR_len {k : Nat} {d : Int} {N : Nat} {ws : List ByteArray} : ∀ {rs out o : List (List Int × (List S27 × Bool))}, nextR k d N ws rs out = some o → out.length ≤ o.length ∧ ((∀ x ∈ out, x.2.1.length = ws.length) → ∀ x ∈ o, x.2.1.length = ws.length)
  | [], out, o, h => by
    simp only [nextR] at h
    obtain rfl := Option.some.inj h
    exact ⟨Nat.le_refl _, fun h => h⟩
  | r :: rs, out, o, h => by
    simp only [nextR] at h
    obtain ⟨y, h1, h⟩ := Option.bind_eq_some_iff.mp h
    have a := moreR_len h1
    have b := nextR_len h
    exact ⟨Nat.le_trans a.1 b.1, fun ha => b.2 (a.2 ha)⟩
/-- How long their words are. -/
theorem moreR_words {k : Nat} {d : Int} {N m : Nat} {ws : List ByteArray} {r : List Int × (List S27 × Bool)} (hr : r.1.length ≤ m) : ∀ {e : Nat} {q : Int} {out o : List (List Int × (List S27 × Bool))}, moreR k d N ws r e q out = some o → (∀ x ∈ out, x.1.length ≤ m + 1) → ∀ x ∈ o, x.1.length ≤ m + 1
  | 0, q, out, o, h => by
    simp only [moreR] at h
    obtain rfl := Option.some.inj h
    exact fun h => h
  | e + 1, q, out, o, h => by
    simp only [moreR] at h
    split at h
    · exact moreR_words hr h
    · obtain ⟨p, _, h⟩ := Option.bind_eq_some_iff.mp h
      split at h
      · obtain ⟨x, _, h⟩ := Option.bind_eq_some_iff.mp h
        obtain ⟨y, _, h⟩ := Option.bind_eq_some_iff.mp h
        split at h
        · refine fun ha => moreR_words hr h fun z hz => ?_
          rcases List.mem_append.1 hz with hz | hz
          · exact ha z hz
          · rw [List.mem_singleton.1 hz, List.length_append, List.length_singleton]
            omega
        · cases h
      · cases h
theorem nextR_words {k : Nat} {d : Int} {N m : Nat} {ws : List ByteArray} : ∀ {rs out o : List (List Int × (List S27 × Bool))}, nextR k d N ws rs out = some o → (∀ x ∈ rs, x.1.length ≤ m) → (∀ x ∈ out, x.1.length ≤ m + 1) → ∀ x ∈ o, x.1.length ≤ m + 1
  | [], out, o, h => by
    simp only [nextR] at h
    obtain rfl := Option.some.inj h
    exact fun _ h => h
  | r :: rs, out, o, h => by
    simp only [nextR] at h
    obtain ⟨y, h1, h⟩ := Option.bind_eq_some_iff.mp h
    exact fun hr ho => nextR_words h (fun x hx => hr x (List.mem_cons_of_mem _ hx)) (moreR_words (hr r List.mem_cons_self) h1 ho)
/-- What a round comes to. -/
theorem rounds_open {k : Nat} {d : Int} {N : Nat} {ws : List ByteArray} {l : List S89} {e : Nat} {rs : List (List Int × (List S27 × Bool))} {r : List Int × Int} (h : roundsR k d N ws l e rs = some r) :
    ∃ o, findR k d (N : Int) ws l rs = some o ∧ (∀ w, o = some w → r = (w, 0)) ∧ (o = none → (e = 0 → r = ([], 4)) ∧ (∀ e', e = e' + 1 → ∃ rs', nextR k d N ws rs [] = some rs' ∧ rs'.length ≤ 100000 ∧ roundsR k d N ws l e' rs' = some r)) := by
  cases e with
  | zero =>
    simp only [roundsR] at h
    obtain ⟨o, h1, h2⟩ := Option.bind_eq_some_iff.mp h
    refine ⟨o, h1, ?_, ?_⟩
    · rintro w rfl
      exact (Option.some.inj h2).symm
    · rintro rfl
      exact ⟨fun _ => (Option.some.inj h2).symm, fun e' he => by omega⟩
  | succ e =>
    simp only [roundsR] at h
    obtain ⟨o, h1, h2⟩ := Option.bind_eq_some_iff.mp h
    refine ⟨o, h1, ?_, ?_⟩
    · rintro w rfl
      exact (Option.some.inj h2).symm
    · rintro rfl
      refine ⟨fun he => by omega, fun e' he => ?_⟩
      obtain rfl : e = e' := by omega
      obtain ⟨rs', h3, h4⟩ := Option.bind_eq_some_iff.mp h2
      by_cases hl : rs'.length ≤ 100000
      · rw [if_pos hl] at h4
        exact ⟨rs', h3, hl, h4⟩
      · rw [if_neg hl] at h4
        cases h4
end Go.Proofs.Ytcklefgkbddlhaa.Tab
