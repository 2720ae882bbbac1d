/- What a call of mapSeries comes to. -/
import Derived.Test.YtcklefgkbddlhaaPx14
import Derived.Test.YtcklefgkbddlhaaPx17
import Derived.Test.YtcklefgkbddlhaaPx16
import Derived.Test.YtcklefgkbddlhaaTabY
namespace Go.Proofs.Ytcklefgkbddlhaa.Tab
open Go.RowKit Go.Proofs.Ytcklefgkbddlhaa.P Go.Proofs.YtcklefgkbddlhaaW.PrintWords Go.Proofs.YtcklefgkbddlhaaW.PrintLast Go.Proofs.YtcklefgkbddlhaaW.PrintMore
set_option linter.unusedVariables false
set_option linter.unusedSimpArgs false

theorem row_okS {w : World} {base n cap g : Nat} {ok : Nat → Prop} {vs : List ByteArray} (h : Kd.R Kd.string 9 w base ok (.slice (some ⟨g, 0, none⟩) n cap) vs) : Kd.R Kd.string 9 w base (fun k => k = g) (.slice (some ⟨g, 0, none⟩) n cap) vs := by
  refine ⟨fun k hk => ?_, h.2.imp_ (fun p c hp => hp)⟩
  simp [Value.ownBlock] at hk
  exact hk.symm
/-- The values and the mark behind the words that a term leads to. -/
def mapW (k : Nat) (e : Int) (l2 : List (List Int)) (t : S89) : List ByteArray → List S27 → Bool → Option (List S27 × Bool)
  | [], vs, bad => some (vs, bad)
  | v :: ws, vs, bad => (impl_ledTo.f k l2 t.f0 v).bind fun p => if p = 0 then mapW k e l2 t ws vs bad else
    (impl_Fraction_timesWhole.f k t.f1.f0 t.f1.f1 p).bind fun m => (impl_number.f k e v).bind fun i => if 0 ≤ i ∧ i < (vs.length : Int) then
      (impl_Fraction_plus.f k (rd_T27 vs i).f0 (rd_T27 vs i).f1 (sel m.2.2 m.1 0) (sel m.2.2 m.2.1 1)).bind fun s => mapW k e l2 t ws (addV vs i.toNat s.1 s.2.1 s.2.2) ((bad || !m.2.2) || !s.2.2)
    else none
/-- The values and the mark behind the terms. -/
def mapT (k : Nat) (e : Int) (l2 : List (List Int)) : List S89 → List S27 → Bool → Option (List S27 × Bool)
  | [], vs, bad => some (vs, bad)
  | t :: l, vs, bad => (impl_words.f k e (t.f0.size : Int)).bind fun ws => if 1 ≤ ws.length then (mapW k e l2 t ws vs bad).bind fun r => mapT k e l2 l r.1 r.2 else none
theorem addV_length (vs : List S27) (i : Nat) (s0 s1 : Int) (fits : Bool) : (addV vs i s0 s1 fits).length = vs.length := by
  rw [addV, List.length_set]
set_option maxHeartbeats 16000000 in
set_option maxRecDepth 100000 in
theorem mapSeries (k : Nat) (a0 a1 : Int) (A : Option Addr) (c : Nat) (l : List S89) (e : Int) (A2 : Option Addr) (c2 : Nat) (l2 : List (List Int)) (ws : List ByteArray) (hk : impl_allWords.f k e a1 = some ws) (h1 : 1 ≤ ws.length) (h2 : ws.length ≤ 1000) (r : List S27 × Bool) (w : World)
    (hr : Kd.C k89 w A l.length l) (hc : l.length ≤ c) (hr2 : Kd.C (Kd.slice 2 (Kd.int .i64)) w A2 l2.length l2) (hc2 : l2.length ≤ c2) (h : mapT k e l2 l (List.replicate ws.length ⟨0, 1⟩) false = some r) :
    Calls Try.prog 101 #[.agg #[.int .i64 a0, .int .i64 a1, .slice A l.length c], .int .i64 e, .slice A2 l2.length c2] w fun e' w' => ∃ B g cap, e' = .returned (.pointer (some ⟨B, 0, none⟩)) ∧ Tab w' w.heap.size B g cap e a1 r.1 r.2 ∧ Below w.heap.size w w' := by
  have hbig : l.length ≤ 9223372036854775807 := Kd.C_max hr
  have HK := Aside0.mk hk
  have HR := Aside0.mk hr
  have HC := Aside0.mk hc
  have HR2 := Aside0.mk hr2
  have HC2 := Aside0.mk hc2
  have H := Aside0.mk h
  clear hk hr hc hr2 hc2 h
  have B0 := Aside0.mk (below_alloc (Below.refl w.heap.size w) (.cells #[.int .i64 a0, .int .i64 a1, .slice A l.length c] 32))
  have R0 := Aside0.mk (blk_new w (.cells #[.int .i64 a0, .int .i64 a1, .slice A l.length c] 32))
  have y1 : (w.alloc (.cells #[.int .i64 a0, .int .i64 a1, .slice A l.length c] 32)).cell? ⟨w.heap.size, 1, none⟩ = some (.int .i64 a1) := (blk_cell R0.out 1).trans rfl
  go_enter Try.func101, Try.ntmps101
  go_wp2_with (go_at_call 85; refine (newTable k e a1 ws HK.out h1 h2 _).mono ?_; rintro e w1 ⟨B, g, cap, rfl, ht, hb⟩; have hsz := below_size B0.out; have R1 := Aside0.mk ((hb.block w.heap.size (by simp)).trans R0.out); have B1 := Aside0.mk (below_step B0.out hb); have T1 := Aside0.mk (ht.lower (base' := w.heap.size) hsz); have hltR : w.heap.size < (w.alloc (.cells #[.int .i64 a0, .int .i64 a1, .slice A l.length c] 32)).heap.size := (by simp); have hBR : w.heap.size < B := Nat.lt_of_lt_of_le hltR ht.hB; have hgR : w.heap.size < g := Nat.lt_of_lt_of_le hltR ht.hg; have y2 : w1.cell? ⟨w.heap.size, 2, none⟩ = some (.slice A l.length c) := (blk_cell R1.out 2).trans rfl; clear hb ht R0 B0 hsz hltR y1)
  go_loopw [20] (fun s20 wr => ∃ (i : Nat) (vs : List S27) (bad : Bool), i ≤ l.length ∧ s20 = .int .i64 i ∧ Aside0 (mapT k e l2 (l.drop i) vs bad = some r) ∧ Aside0 (vs.length = ws.length) ∧ Aside0 (Tab wr w.heap.size B g cap e a1 vs bad) ∧ Aside0 (Below w.heap.size w wr)) (fun s20 _ => l.length - (intOf s20).toNat)
  case atStart => exact ⟨0, _, _, Nat.zero_le _, rfl, H, ⟨by simp⟩, T1, B1⟩
  case round =>
    clear T1 R1 B1 H y2
    obtain ⟨i, vs, bad, hi, rfl, H, HL, HT, BB⟩ := hrel
    by_cases hlt : i < l.length
    · have hltz : (i : Int) < (l.length : Int) := by omega
      have H := H.out
      rw [List.drop_eq_getElem_cons hlt] at H
      simp only [mapT] at H
      obtain ⟨wv, AW, H⟩ := Option.bind_eq_some_iff.mp H
      by_cases hw1 : 1 ≤ wv.length
      · rw [if_pos hw1] at H
        obtain ⟨⟨vs1, bad1⟩, AX, H⟩ := Option.bind_eq_some_iff.mp H
        have AW := Aside0.mk AW
        have AX := Aside0.mk AX
        have HN := Aside0.mk H
        clear H
        obtain ⟨ad, eA, x0, x1, x2⟩ := at_T89 HR.out (i : Int) (by omega) hltz
        subst eA
        rw [show rd_T89 l (i : Int) = l[i] from by simp [rd_T89, hlt], Int.toNat_natCast] at x0 x1 x2
        replace x0 := (BB.out.cell (World.block_lt_of_cell? w _ x0)).trans x0
        replace x1 := (BB.out.cell (World.block_lt_of_cell? w _ x1)).trans x1
        replace x2 := (BB.out.cell (World.block_lt_of_cell? w _ x2)).trans x2
        have p1 : (0 ≤ (i : Int)) = True := eq_true (by omega)
        have p2 : ((i : Int) < (l.length : Int)) = True := eq_true hltz
        have p3 : (i < l.length) = True := eq_true hlt
        have BT3 := Aside0.mk (blk_new wr (.cells #[.string l[i].f0, .int .i64 l[i].f1.f0, .int .i64 l[i].f1.f1] 89))
        have HT3 := Aside0.mk (HT.out.below (below_alloc (Below.refl _ _) (.cells #[.string l[i].f0, .int .i64 l[i].f1.f0, .int .i64 l[i].f1.f1] 89)))
        have BB3 := Aside0.mk (below_alloc BB.out (.cells #[.string l[i].f0, .int .i64 l[i].f1.f0, .int .i64 l[i].f1.f1] 89))
        have hTB : B < wr.heap.size := HT.out.ltB
        have hTg : g < wr.heap.size := HT.out.lt
        have hTw : w.heap.size ≤ wr.heap.size := below_size BB.out
        go_wp2_with (go_at_call 149; generalize (wr.alloc (.cells #[.string l[i].f0, .int .i64 l[i].f1.f0, .int .i64 l[i].f1.f1] 89)) = W3 at BT3 HT3 BB3 ⊢; generalize wr.heap.size = T at BT3 hTB hTg hTw ⊢; refine (impl_words.calls k e _ wv _ AW.out).mono ?_; rintro e4 w4 ⟨v0, rfl, hv0, hb⟩; obtain ⟨gw, cw, rfl, hgw1, hgw2, hgw3⟩ := Kd.R_form hv0 hw1; have hwm : wv.length ≤ 9223372036854775807 := Kd.C_max (Kd.R_reads' hv0).2.2; have hsz := below_size BB3.out; have hTl := (Array.getElem?_eq_some_iff.1 BT3.out).1; have hTw4 : T < gw := Nat.lt_of_lt_of_le hTl hgw1; have HT4 := Aside0.mk (HT3.out.below hb); have BT4 := Aside0.mk ((hb.block T hTl).trans BT3.out); have WR4 := Aside0.mk (row_okS (Kd.R_lower hv0 (base' := w.heap.size) hsz)); have BB4 := Aside0.mk (below_step BB3.out hb); clear hb hv0 hgw1 hgw2 hgw3 hsz HT3 BT3 BB3 hTl)
        clear x0 x1 x2 p1 p2 p3 HT BB
        go_loopw [30] (fun s30 w5 => ∃ (j : Nat) (vs : List S27) (bad : Bool), j ≤ wv.length ∧ s30 = .int .i64 j ∧ Aside0 (mapW k e l2 l[i] (wv.drop j) vs bad = some (vs1, bad1)) ∧ Aside0 (vs.length = ws.length) ∧ Aside0 (Tab w5 w.heap.size B g cap e a1 vs bad) ∧ Aside0 (w5.heap[T]? = some (.cells #[.string l[i].f0, .int .i64 l[i].f1.f0, .int .i64 l[i].f1.f1] 89 (0, 0))) ∧ Aside0 (Kd.R Kd.string 9 w5 w.heap.size (fun k => k = gw) (.slice (some ⟨gw, 0, none⟩) wv.length cw) wv) ∧ Aside0 (Below w.heap.size w w5)) (fun s30 _ => wv.length - (intOf s30).toNat)
        case atStart => exact ⟨0, vs, bad, Nat.zero_le _, rfl, AX, HL, HT4, BT4, WR4, BB4⟩
        case round =>
          clear HT4 BT4 WR4 BB4 AX HL
          obtain ⟨j, vs, bad, hj, rfl, H, HL, HT, BT, WR, BB⟩ := hrel
          by_cases hjt : j < wv.length
          · have hjz : (j : Int) < (wv.length : Int) := by omega
            have H := H.out
            rw [List.drop_eq_getElem_cons hjt] at H
            simp only [mapW] at H
            obtain ⟨p, AP, H⟩ := Option.bind_eq_some_iff.mp H
            have AP := Aside0.mk AP
            obtain ⟨y0, _⟩ := Kd.R_celln ByteArray.empty WR.out (j : Int) (by omega) hjz
            rw [Int.toNat_natCast, show rdOf ByteArray.empty wv (j : Int) = wv[j] from by simp [rdOf, hjt]] at y0
            have z0 : wr.cell? ⟨T, 0, none⟩ = some (.string l[i].f0) := (blk_cell BT.out 0).trans rfl
            have p1 : (0 ≤ (j : Int)) = True := eq_true (by omega)
            have p2 : ((j : Int) < (wv.length : Int)) = True := eq_true hjz
            have p3 : (j < wv.length) = True := eq_true hjt
            by_cases hp : p = 0
            · rw [if_pos hp] at H
              subst hp
              have HN1 := Aside0.mk H
              clear H
              go_wp2_with (go_at_call 150; refine (impl_ledTo.calls k _ c2 l2 _ _ 0 _ (Kd.C_below HR2.out BB.out) HC2.out AP.out).mono ?_; rintro e6 w6 ⟨rfl, hd⟩; have hb := of_drawn hd; have HT6 := Aside0.mk (HT.out.below hb); have BT6 := Aside0.mk ((hb.block T (Array.getElem?_eq_some_iff.1 BT.out).1).trans BT.out); have WR6 := Aside0.mk (Kd.R_below WR.out hb); have BB6 := Aside0.mk (below_step BB.out hb); have z1 : w6.cell? ⟨T, 1, none⟩ = some (.int .i64 l[i].f1.f0) := (blk_cell BT6.out 1).trans rfl; have z2 : w6.cell? ⟨T, 2, none⟩ = some (.int .i64 l[i].f1.f1) := (blk_cell BT6.out 2).trans rfl; clear hb hd)
              exact ⟨⟨j + 1, vs, bad, by omega, by go_num, HN1, HL, HT6, BT6, WR6, BB6⟩, by simp [intOf]; omega⟩
            · rw [if_neg hp] at H
              have hpb : (p != 0) = true := bne_iff_ne.mpr hp
              clear hp
              obtain ⟨⟨m0, m1, m2⟩, AM, H⟩ := Option.bind_eq_some_iff.mp H
              obtain ⟨n, AN, H⟩ := Option.bind_eq_some_iff.mp H
              by_cases hn0 : 0 ≤ n ∧ n < (vs.length : Int)
              · rw [if_pos hn0] at H
                obtain ⟨⟨s0, s1, s2⟩, AS, H⟩ := Option.bind_eq_some_iff.mp H
                obtain ⟨n, rfl⟩ := Int.eq_ofNat_of_zero_le hn0.1
                have hn : n < vs.length := by omega
                dsimp only at H AS
                rw [Int.toNat_natCast] at H
                have AM := Aside0.mk AM
                have AN := Aside0.mk AN
                have AS := Aside0.mk AS
                have HN1 := Aside0.mk H
                clear H hn0
                go_wp2_with (first
                  | (go_at_call 150; refine (impl_ledTo.calls k _ c2 l2 _ _ p _ (Kd.C_below HR2.out BB.out) HC2.out AP.out).mono ?_; rintro e6 w6 ⟨rfl, hd⟩; have hb := of_drawn hd; have HT6 := Aside0.mk (HT.out.below hb); have BT6 := Aside0.mk ((hb.block T (Array.getElem?_eq_some_iff.1 BT.out).1).trans BT.out); have WR6 := Aside0.mk (Kd.R_below WR.out hb); have BB6 := Aside0.mk (below_step BB.out hb); have z1 : w6.cell? ⟨T, 1, none⟩ = some (.int .i64 l[i].f1.f0) := (blk_cell BT6.out 1).trans rfl; have z2 : w6.cell? ⟨T, 2, none⟩ = some (.int .i64 l[i].f1.f1) := (blk_cell BT6.out 2).trans rfl; clear hb hd)
                  | (go_at_call 114; refine (impl_Fraction_timesWhole.calls k _ _ p m0 m1 m2 _ AM.out).mono ?_; rintro e7 w7 ⟨rfl, hb⟩; have HT7 := Aside0.mk (HT6.out.below hb); have BT7 := Aside0.mk ((hb.block T (Array.getElem?_eq_some_iff.1 BT6.out).1).trans BT6.out); have WR7 := Aside0.mk (Kd.R_below WR6.out hb); have BB7 := Aside0.mk (below_step BB6.out hb); clear hb)
                  | (go_at_call 142; refine (check m0 m1 m2 w.heap.size B g cap e a1 vs bad _ HT7.out).mono ?_; rintro e8 w8 ⟨rfl, ht, hto, hbb⟩; have HT8 := Aside0.mk ht; have hgl := own_lt (Kd.R_own WR7.out).choose_spec gw (by simp [Value.ownBlock]); have BT8 := Aside0.mk ((hto.2 T (Array.getElem?_eq_some_iff.1 BT7.out).1 (by omega)).trans BT7.out); have WR8 := Aside0.mk (Kd.R_move WR7.out (fun kk hk => by subst hk; exact hto.2 _ hgl (by omega))); have BB8 := Aside0.mk (BB7.out.trans (hbb w.heap.size (by omega))); clear ht hto hbb hgl)
                  | (go_at_call 95; refine (add k w.heap.size B g cap e a1 vs _ _ n _ _ s0 s1 s2 AN.out hn AS.out _ HT8.out).mono ?_; rintro e9 w9 ⟨rfl, ht, hto, hbb⟩; have HT9 := Aside0.mk ht; have hgl := own_lt (Kd.R_own WR8.out).choose_spec gw (by simp [Value.ownBlock]); have BT9 := Aside0.mk ((hto.2 T (Array.getElem?_eq_some_iff.1 BT8.out).1 (by omega) (by omega)).trans BT8.out); have WR9 := Aside0.mk (Kd.R_move WR8.out (fun kk hk => by subst hk; exact hto.2 _ hgl (by omega) (by omega))); have BB9 := Aside0.mk (BB8.out.trans (hbb w.heap.size (by omega) (by omega))); clear ht hto hbb hgl))
                exact ⟨⟨j + 1, _, _, by omega, by go_num, HN1, ⟨(addV_length _ _ _ _ _).trans HL.out⟩, HT9, BT9, WR9, BB9⟩, by simp [intOf]; omega⟩
              · rw [if_neg hn0] at H
                exact absurd H (by simp)
          · obtain rfl : j = wv.length := by omega
            have H := H.out
            rw [List.drop_length] at H
            simp only [mapW] at H
            cases H
            go_wp2
            exact ⟨⟨i + 1, _, _, by omega, by go_num, HN, HL, HT, BB⟩, by simp [intOf]; omega⟩
      · rw [if_neg hw1] at H
        exact absurd H (by simp)
    · obtain rfl : i = l.length := by omega
      have H := H.out
      rw [List.drop_length] at H
      simp only [mapT] at H
      cases H
      go_wp2
      exact bodyPost_ret (results_tmp rfl _ _ _) rfl ⟨B, rfl, ⟨g, cap, HT.out⟩, BB.out⟩
end Go.Proofs.Ytcklefgkbddlhaa.Tab
