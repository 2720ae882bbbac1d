/- The product of two tables: what a call of times comes to. (The drawn regions are printed by a program of this session.) -/
import Derived.Test.YtcklefgkbddlhaaTabX
namespace Go.Proofs.Ytcklefgkbddlhaa.Tab
open Go.RowKit Go.Proofs.Ytcklefgkbddlhaa.P Go.Proofs.YtcklefgkbddlhaaW.PrintWords Go.Proofs.YtcklefgkbddlhaaW.PrintLast Go.Proofs.YtcklefgkbddlhaaW.PrintMore
set_option linter.unusedVariables false
set_option linter.unusedSimpArgs false

theorem row_okS {w : World} {base n cap g : Nat} {ok : Nat → Prop} {vs : List ByteArray} (h : Kd.R Kd.string 9 w base ok (.slice (some ⟨g, 0, none⟩) n cap) vs) : Kd.R Kd.string 9 w base (fun k => k = g) (.slice (some ⟨g, 0, none⟩) n cap) vs := by
 refine ⟨fun k hk => ?_, h.2.imp_ (fun p c hp => hp)⟩
 simp [Value.ownBlock] at hk
 exact hk.symm
/-- The values of a product behind the parts of a word, from a place on. -/
def timesI (k : Nat) (d : Int) (w : ByteArray) (ts us : List S27) : Nat → Nat → List S27 → Bool → Option (List S27 × Bool)
 | 0, _, vs, bad => some (vs, bad)
 | e + 1, i, vs, bad => (impl_number.f k d (w.extract 0 i)).bind fun p => (impl_number.f k d (w.extract i w.size)).bind fun q => if (0 ≤ p ∧ p < (ts.length : Int)) ∧ 0 ≤ q ∧ q < (us.length : Int) then
  (if (rd_T27 ts p).f0 = 0 ∨ (rd_T27 us q).f0 = 0 then timesI k d w ts us e (i + 1) vs bad else
   (impl_Fraction_times.f k (rd_T27 ts p).f0 (rd_T27 ts p).f1 (rd_T27 us q).f0 (rd_T27 us q).f1).bind fun m => (impl_number.f k d w).bind fun j => if 0 ≤ j ∧ j < (vs.length : Int) then
    (impl_Fraction_plus.f k (rd_T27 vs j).f0 (rd_T27 vs j).f1 (sel m.2.2 m.1 0) (sel m.2.2 m.2.1 1)).bind fun s => timesI k d w ts us e (i + 1) (addV vs j.toNat s.1 s.2.1 s.2.2) ((bad || !m.2.2) || !s.2.2)
   else none) else none
/-- The values of a product behind the words. -/
def timesO (k : Nat) (d : Int) (ts us : List S27) : List ByteArray → List S27 → Bool → Option (List S27 × Bool)
 | [], vs, bad => some (vs, bad)
 | w :: l, vs, bad => (timesI k d w ts us (w.size + 1) 0 vs bad).bind fun r => timesO k d ts us l r.1 r.2
theorem wrap_small (n : Nat) (h : n ≤ 1000) : wrap64 ((n : Int) + 1) = ((n + 1 : Nat) : Int) := by unfold wrap64; omega
theorem addV_len2 (vs : List S27) (i : Nat) (s0 s1 : Int) (fits : Bool) : (addV vs i s0 s1 fits).length = vs.length := by rw [addV, List.length_set]
set_option maxHeartbeats 32000000 in
set_option maxRecDepth 100000 in
theorem times_true (k : Nat) (d n : Int) (ws : List ByteArray) (hk : impl_allWords.f k d n = some ws) (h1 : 1 ≤ ws.length) (h2 : ws.length ≤ 1000) (hx : ∀ x ∈ ws, x.size ≤ 1000) (base B g cap : Nat) (vs : List S27) (base' B' g' cap' : Nat) (us : List S27) (bad' : Bool) (r : List S27 × Bool) (hs : timesO k d vs us ws (List.replicate ws.length ⟨0, 1⟩) (true || bad') = some r) (w : World) (h : Tab w base B g cap d n vs true) (h' : Tab w base' B' g' cap' d n us bad') :
 Calls Try.prog 90 #[.pointer (some ⟨B, 0, none⟩), .pointer (some ⟨B', 0, none⟩)] w fun e w' => ∃ Bo go capo, e = .returned (.pointer (some ⟨Bo, 0, none⟩)) ∧ Tab w' w.heap.size Bo go capo d n r.1 r.2 ∧ Below w.heap.size w w' := by
 have HT := zA h
 have HT' := zA h'
 have HK := zA hk
 have HX := zA hx
 clear h h' hk hx
 have H := zA (show timesO k d vs us ws (List.replicate ws.length ⟨0, 1⟩) true = some r from hs)
 clear hs
 go_enter Try.func90, Try.ntmps90
 go_wp2_with (go_at_call 133; refine (like k d n ws HK.out h1 h2 base B g cap vs true _ HT.out).mono ?_; rintro e w1 ⟨Bo, go, capo, rfl, ht1, hb1⟩; have B1 := zA hb1; have hBo : w.heap.size ≤ Bo := ht1.hB; have hgo : w.heap.size ≤ go := ht1.hg; have hne : Bo ≠ go := ht1.ne; have hB := HT.out.ltB; have hB' := HT'.out.ltB; have hg := HT.out.lt; have hg' := HT'.out.lt; have x3 := (HT.out.below B1.out).cells.2.2.2; have y3 := (HT'.out.below B1.out).cells.2.2.2; have z3 := ht1.cells.2.2.2; have zf := ht1.frozen 3; have HTo := zA (ht1.mark true); have B2 := zA (show Below w.heap.size w (w1.setCell ⟨Bo, 3, none⟩ (.bool true)) from below_set B1.out hBo); clear hb1 ht1)
 clear x3 y3 z3 zf B1
 generalize w1.setCell ⟨Bo, 3, none⟩ (.bool true) = w2 at HTo B2 ⊢
 have x0 := (HT.out.below B2.out).cells.1
 have x1 := (HT.out.below B2.out).cells.2.1
 have HK1 : Aside0 (∀ W7 : World, Below w2.heap.size w2 W7 → W7.cell? ⟨B, 0, none⟩ = some (.int .i64 d) ∧ W7.cell? ⟨B, 1, none⟩ = some (.int .i64 n)) := ⟨fun W7 hb => ⟨pw_cell_below hb x0, pw_cell_below hb x1⟩⟩
 clear x0 x1
 refine wp_region_noPanic ?_
 refine wp_region_held_drew (S := (fun w' => w'.cell? ⟨B, 0, none⟩ = some (.int .i64 d) ∧ w'.cell? ⟨B, 1, none⟩ = some (.int .i64 n))) (by kernel_rfl) ?_ (fun hHeld => ?_)
 ·(try dsimp only)
  (exact HK1.out _ (below_drew (Below.refl _ _)))
 refine wpAnyH_take (i := 0) (v := ?v0) rfl (by kernel_rfl) (by kernel_rfl) (by kernel_rfl) (fun _ _ _ h => h) (Or.inl ⟨by rfl, ?hy0⟩) (by assumption) ?rest0
 case hy0 => (intro w hSw; (try dsimp only at hSw); go_simp; try (with_reducible rfl))
 (try simp only [Act.put, List.setIfInBounds_toArray, List.set])
 refine wpAnyH_take (i := 1) (v := ?v1) rfl (by kernel_rfl) (by kernel_rfl) (by kernel_rfl) (fun _ _ _ h => h) (Or.inl ⟨by rfl, ?hy1⟩) (by assumption) ?rest1
 case hy1 => (intro w hSw; (try dsimp only at hSw); go_simp; try (with_reducible rfl))
 (try simp only [Act.put, List.setIfInBounds_toArray, List.set])
 refine wpAnyH_take (i := 2) (v := ?v2) rfl (by kernel_rfl) (by kernel_rfl) (by kernel_rfl) (fun _ _ _ h => h) (Or.inl ⟨by rfl, ?hy2⟩) (by assumption) ?rest2
 case hy2 => (intro w hSw; (try dsimp only at hSw); go_simp; try (with_reducible rfl))
 (try simp only [Act.put, List.setIfInBounds_toArray, List.set])
 refine wpAnyH_take (i := 3) (v := ?v3) rfl (by kernel_rfl) (by kernel_rfl) (by kernel_rfl) (fun _ _ _ h => h) (Or.inl ⟨by rfl, ?hy3⟩) (by assumption) ?rest3
 case hy3 => (intro w hSw; (try dsimp only at hSw); go_simp; try (with_reducible rfl))
 (try simp only [Act.put, List.setIfInBounds_toArray, List.set])
 refine wpAnyH_take (i := 4) (v := ?v4) rfl (by kernel_rfl) (by kernel_rfl) (by kernel_rfl) (fun _ _ _ h => h) (Or.inl ⟨by rfl, ?hy4⟩) (by assumption) ?rest4
 case hy4 => (intro w hSw; (try dsimp only at hSw); go_simp; try (with_reducible rfl))
 (try simp only [Act.put, List.setIfInBounds_toArray, List.set])
 refine wpAnyH_take (i := 5) (v := ?v5) rfl (by kernel_rfl) (by kernel_rfl) (by kernel_rfl) (fun _ _ _ h => h) (Or.inl ⟨by rfl, ?hy5⟩) (by assumption) ?rest5
 case hy5 => (intro w hSw; (try dsimp only at hSw); go_simp; try (with_reducible rfl))
 (try simp only [Act.put, List.setIfInBounds_toArray, List.set])
 refine wpAnyH_take (i := 6) (v := ?v6) rfl (by kernel_rfl) (by kernel_rfl) (by kernel_rfl) (fun _ _ _ h => h) (Or.inl ⟨by rfl, ?hy6⟩) (by assumption) ?rest6
 case hy6 => (intro w hSw; (try dsimp only at hSw); go_simp; try (with_reducible rfl))
 (try simp only [Act.put, List.setIfInBounds_toArray, List.set])
 refine wpAnyH_take (i := 7) (v := ?v7) rfl (by kernel_rfl) (by kernel_rfl) (by kernel_rfl) (fun _ _ _ h => h) (Or.inl ⟨by rfl, ?hy7⟩) (by assumption) ?rest7
 case hy7 => (intro w hSw; (try dsimp only at hSw); go_simp; try (with_reducible rfl))
 (try simp only [Act.put, List.setIfInBounds_toArray, List.set])
 refine wpAnyH_take (i := 10) (v := ?v8) rfl (by kernel_rfl) (by kernel_rfl) (by kernel_rfl) (fun _ _ _ h => h) (Or.inl ⟨by rfl, ?hy8⟩) (by assumption) ?rest8
 case hy8 => (intro w hSw; (try dsimp only at hSw); go_simp; try (with_reducible rfl))
 (try simp only [Act.put, List.setIfInBounds_toArray, List.set])
 refine wpAnyH_ready (rs := [8]) (by kernel_rfl) (by simp) ?_
 refine AllReadyH.cons rfl (fun K hK => ?_) AllReadyH.nil
 go_simp
 (go_at_call 132; refine (impl_allWords.calls k d n ws _ HK.out).mono ?_; rintro e w3 ⟨v0, rfl, hv0, hb⟩; obtain ⟨gw, cw, rfl, hgw1, hgw2, hgw3⟩ := Kd.R_form hv0 (by omega))
 refine hK.out _ _ ?_ (fun hHeld => ?_)
 ·(try dsimp only)
  (exact HK1.out _ (below_step (below_drew (Below.refl _ _)) hb))
 clear hK K
 (try simp only [Act.put, List.setIfInBounds_toArray, List.set])
 refine wpAnyH_ready (rs := [9]) (by kernel_rfl) (by simp) ?_
 refine AllReadyH.cons rfl (fun K hK => ?_) AllReadyH.nil
 go_simp
 skip
 refine hK.out _ _ ?_ (fun hHeld => ?_)
 ·(try dsimp only)
  (exact HK1.out _ (below_step (below_drew (Below.refl _ _)) hb))
 clear hK K
 (try simp only [Act.put, List.setIfInBounds_toArray, List.set])
 refine wpAnyH_done (by kernel_rfl) ?_ _
 refine NoPanic.normal ?_
 have hsz := below_size B2.out
 go_wp2
 have HTo3 := zA ((HTo.out.below (below_drew (Below.refl _ _))).below hb)
 have WR3 := zA (row_okS (Kd.R_lower hv0 (base' := w.heap.size) (by show w.heap.size ≤ w2.heap.size; exact hsz)))
 have B3 := zA (below_step (below_drew B2.out) hb)
 have hgB : Bo ≠ gw := Nat.ne_of_lt (Nat.lt_of_lt_of_le (show Bo < w2.heap.size from HTo.out.ltB) hgw1)
 have hgg : go ≠ gw := Nat.ne_of_lt (Nat.lt_of_lt_of_le (show go < w2.heap.size from HTo.out.lt) hgw1)
 have hgw : w.heap.size ≤ gw := Nat.le_trans hsz hgw1
 clear hb hv0 hgw1 hgw2 hgw3 hsz HTo B2
 go_loopw [36] (fun s36 wr => ∃ (j : Nat) (os : List S27) (bo : Bool), j ≤ ws.length ∧ s36 = .int .i64 j ∧ Aside0 (timesO k d vs us (ws.drop j) os bo = some r) ∧ Aside0 (os.length = ws.length) ∧ Aside0 (Tab wr w.heap.size Bo go capo d n os bo) ∧ Aside0 (Kd.R Kd.string 9 wr w.heap.size (fun k => k = gw) (.slice (some ⟨gw, 0, none⟩) ws.length cw) ws) ∧ Aside0 (Below w.heap.size w wr)) (fun s36 _ => ws.length - (intOf s36).toNat)
 case atStart => exact ⟨0, _, _, Nat.zero_le _, rfl, H, ⟨by simp⟩, HTo3, WR3, B3⟩
 case round =>
  clear H HTo3 WR3 B3 HK1
  obtain ⟨j, os, bo, hj, rfl, H, HL, HTo, WR, BB⟩ := hrel
  by_cases hjt : j < ws.length
  ·have H := H.out
   rw [List.drop_eq_getElem_cons hjt] at H
   simp only [timesO] at H
   obtain ⟨⟨vs1, bad1⟩, AX, H⟩ := Option.bind_eq_some_iff.mp H
   have AX := zA AX
   have HN := zA H
   clear H
   obtain ⟨y0, _⟩ := Kd.R_celln ByteArray.empty WR.out (j : Int) (by omega) (by omega)
   rw [Int.toNat_natCast, show rdOf ByteArray.empty ws (j : Int) = ws[j] from by simp [rdOf, hjt]] at y0
   have p1 : (0 ≤ (j : Int)) = True := eq_true (by omega)
   have p2 : ((j : Int) < (ws.length : Int)) = True := eq_true (by omega)
   have p3 : (j < ws.length) = True := eq_true hjt
   have hws := HX.out _ (List.getElem_mem hjt)
   generalize ws[j] = x at y0 AX hws
   go_wp2
   clear y0 p1 p2 p3
   go_loopw [43] (fun s43 wr => ∃ (i : Nat) (os : List S27) (bo : Bool), i ≤ x.size + 1 ∧ s43 = .int .i64 i ∧ Aside0 (timesI k d x vs us (x.size + 1 - i) i os bo = some (vs1, bad1)) ∧ Aside0 (os.length = ws.length) ∧ Aside0 (Tab wr w.heap.size Bo go capo d n os bo) ∧ Aside0 (Kd.R Kd.string 9 wr w.heap.size (fun k => k = gw) (.slice (some ⟨gw, 0, none⟩) ws.length cw) ws) ∧ Aside0 (Below w.heap.size w wr)) (fun s43 _ => x.size + 1 - (intOf s43).toNat)
   case atStart => exact ⟨0, _, _, Nat.zero_le _, rfl, AX, HL, HTo, WR, BB⟩
   case round =>
    clear AX HL HTo WR BB
    obtain ⟨i, os, bo, hi, rfl, H, HL, HTo, WR, BB⟩ := hrel
    have hol := HL.out
    by_cases hit : i < x.size + 1
    ·have H := H.out
     obtain ⟨e', he'⟩ : ∃ e', x.size + 1 - i = e' + 1 := ⟨x.size + 1 - i - 1, by omega⟩
     rw [he'] at H
     simp only [timesI] at H
     rw [show e' = x.size + 1 - (i + 1) from by omega] at H
     obtain ⟨p, HP, H⟩ := Option.bind_eq_some_iff.mp H
     obtain ⟨q, HQ, H⟩ := Option.bind_eq_some_iff.mp H
     by_cases hpq : (0 ≤ p ∧ p < (vs.length : Int)) ∧ 0 ≤ q ∧ q < (us.length : Int)
     ·rw [if_pos hpq] at H
      obtain ⟨p, rfl⟩ := Int.eq_ofNat_of_zero_le hpq.1.1
      obtain ⟨q, rfl⟩ := Int.eq_ofNat_of_zero_le hpq.2.1
      have hp : p < vs.length := by omega
      have hq : q < us.length := by omega
      have HP := zA HP
      have HQ := zA HQ
      have HH := zA H
      clear H hpq
      have c1 : decide ((i : Int) < wrap64 ((x.size : Int) + 1)) = true := by rw [wrap_small x.size hws]; exact decide_eq_true (by omega)
      have c2 : ((i : Int) < wrap64 ((x.size : Int) + 1)) = True := eq_true (of_decide_eq_true c1)
      have s0 : (0 ≤ (i : Int)) = True := eq_true (by omega)
      have s1 : ((i : Int) ≤ (x.size : Int)) = True := eq_true (by omega)
      have s2 : (i ≤ x.size) = True := eq_true (by omega)
      have HT0 := zA (HT.out.below (below_drew BB.out))
      have HU0 := zA (HT'.out.below (below_drew BB.out))
      have HO0 := zA (HTo.out.below (below_drew (Below.refl _ _)))
      have WR0 := zA (Kd.R_below WR.out (below_drew (Below.refl _ _)))
      have BB0 := zA (below_drew BB.out)
      have hwz : w.heap.size ≤ wr.drew.heap.size := below_size BB0.out
      go_upto_region 9 with (fail)
      refine start_ (n := 14) (S := (fun _ => True)) (ds := []) #[false, false, false, false, false, false, false, false, false, false, false, false, false, false] (by kernel_rfl) rfl rfl trivial (fun hHeld => ?_)
      refine pure_ (i := 0) (N := some 46) (v := ?_) (a' := ?_) #[true, false, false, false, false, false, false, false, false, false, false, false, false, false] rfl rfl (by kernel_rfl) (fun _ _ _ h => h) (Or.inl ⟨by rfl, ?_⟩) ?_ ?_
      rotate_left
      ·intro w'
       go_simp
       with_reducible rfl
      rotate_left
      ·simp only [Act.put, List.setIfInBounds_toArray, List.set, i64_w, i32_w]
       rfl
      refine pure_ (i := 1) (N := some 47) (v := ?_) (a' := ?_) #[true, true, false, false, false, false, false, false, false, false, false, false, false, false] rfl rfl (by kernel_rfl) (fun _ _ _ h => h) (Or.inl ⟨by rfl, ?_⟩) ?_ ?_
      rotate_left
      ·intro w'
       go_simp
       with_reducible rfl
      rotate_left
      ·simp only [Act.put, List.setIfInBounds_toArray, List.set, i64_w, i32_w]
       rfl
      refine pure_ (i := 2) (N := some 48) (v := ?_) (a' := ?_) #[true, true, true, false, false, false, false, false, false, false, false, false, false, false] rfl rfl (by kernel_rfl) (fun _ _ _ h => h) (Or.inl ⟨by rfl, ?_⟩) ?_ ?_
      rotate_left
      ·intro w'
       go_simp
       with_reducible rfl
      rotate_left
      ·simp only [Act.put, List.setIfInBounds_toArray, List.set, i64_w, i32_w]
       rfl
      refine pure_ (i := 3) (N := some 49) (v := ?_) (a' := ?_) #[true, true, true, true, false, false, false, false, false, false, false, false, false, false] rfl rfl (by kernel_rfl) (fun _ _ _ h => h) (Or.inl ⟨by rfl, ?_⟩) ?_ ?_
      rotate_left
      ·intro w'
       go_simp
       with_reducible rfl
      rotate_left
      ·simp only [Act.put, List.setIfInBounds_toArray, List.set, i64_w, i32_w]
       rfl
      refine pure_ (i := 5) (N := some 51) (v := ?_) (a' := ?_) #[true, true, true, true, false, true, false, false, false, false, false, false, false, false] rfl rfl (by kernel_rfl) (fun _ _ _ h => h) (Or.inl ⟨by rfl, ?_⟩) ?_ ?_
      rotate_left
      ·intro w'
       go_simp
       with_reducible rfl
      rotate_left
      ·simp only [Act.put, List.setIfInBounds_toArray, List.set, i64_w, i32_w]
       rfl
      refine pure_ (i := 6) (N := some 52) (v := ?_) (a' := ?_) #[true, true, true, true, false, true, true, false, false, false, false, false, false, false] rfl rfl (by kernel_rfl) (fun _ _ _ h => h) (Or.inl ⟨by rfl, ?_⟩) ?_ ?_
      rotate_left
      ·intro w'
       go_simp
       with_reducible rfl
      rotate_left
      ·simp only [Act.put, List.setIfInBounds_toArray, List.set, i64_w, i32_w]
       rfl
      refine pure_ (i := 7) (N := some 53) (v := ?_) (a' := ?_) #[true, true, true, true, false, true, true, true, false, false, false, false, false, false] rfl rfl (by kernel_rfl) (fun _ _ _ h => h) (Or.inl ⟨by rfl, ?_⟩) ?_ ?_
      rotate_left
      ·intro w'
       go_simp
       with_reducible rfl
      rotate_left
      ·simp only [Act.put, List.setIfInBounds_toArray, List.set, i64_w, i32_w]
       rfl
      refine pure_ (i := 8) (N := some 54) (v := ?_) (a' := ?_) #[true, true, true, true, false, true, true, true, true, false, false, false, false, false] rfl rfl (by kernel_rfl) (fun _ _ _ h => h) (Or.inl ⟨by rfl, ?_⟩) ?_ ?_
      rotate_left
      ·intro w'
       go_simp
       with_reducible rfl
      rotate_left
      ·simp only [Act.put, List.setIfInBounds_toArray, List.set, i64_w, i32_w]
       rfl
      have HW := zA (Below.refl wr.drew.heap.size wr.drew)
      refine join_ (σ := Nat × Nat) 2 #[true, true, true, true, true, true, true, true, true, true, true, true, false, false] (fun s_ => [(50, .agg #[.int .i64 (rd_T27 vs (p : Int)).f0, .int .i64 (rd_T27 vs (p : Int)).f1]), (55, .agg #[.int .i64 (rd_T27 us (q : Int)).f0, .int .i64 (rd_T27 us (q : Int)).f1]), (9, .pointer (some ⟨s_.1, 0, none⟩)), (10, .pointer (some ⟨s_.2, 0, none⟩))]) (fun s_ w' => Below wr.drew.heap.size wr.drew w' ∧ s_.1 ≠ s_.2 ∧ wr.drew.heap.size ≤ s_.1 ∧ wr.drew.heap.size ≤ s_.2 ∧ w'.heap[s_.1]? = some (.cells #[.int .i64 0, .int .i64 0] 27 (0, 0)) ∧ w'.heap[s_.2]? = some (.cells #[.int .i64 0, .int .i64 0] 27 (0, 0))) ?_ ?_
      rotate_left
      ·intro hCont
       refine three_ (i := 4) (j := 10) (k := 11) (Ni := some 50) (Nj := some 9) (Nk := some 10) #[true, true, true, true, true, true, true, true, true, false, false, false, false, false] #[true, true, true, true, false, true, true, true, true, false, true, false, false, false] #[true, true, true, true, false, true, true, true, true, false, false, true, false, false] rfl rfl rfl rfl rfl rfl (by kernel_rfl) (by decide) (by decide) (by decide) (fun K hK => ?_) (fun K hK => ?_) (fun K hK => ?_)
       ·skip
        refine goes_ Try.func137 (by kernel_rfl) rfl #[.pointer (some ⟨B, 0, none⟩), .string (x.extract 0 i)] (by rfl) rfl rfl (by (try simp only [List.map_toArray, List.map_cons, List.map_nil]); rfl) ?_; (with_reducible refine (at_ k base B g cap d n vs true (x.extract 0 i) p HP.out hp _ (HT0.out.below HW.out)).mono ?_); rintro e w5 ⟨rfl, hb⟩; refine ⟨_, rfl, ?_⟩
        replace HW := zA (below_step HW.out hb)
        clear hb
        refine hK.out _ _ trivial (fun hHeld => ?_)
        clear hK K
        refine norm_ (a' := ?_) ?_ ?_
        rotate_left
        ·simp only [Act.put, List.setIfInBounds_toArray, List.set, i64_w, i32_w]
         rfl
        refine three_ (i := 9) (j := 10) (k := 11) (Ni := some 55) (Nj := some 9) (Nk := some 10) #[true, true, true, true, true, true, true, true, true, true, false, false, false, false] #[true, true, true, true, true, true, true, true, true, false, true, false, false, false] #[true, true, true, true, true, true, true, true, true, false, false, true, false, false] rfl rfl rfl rfl rfl rfl (by kernel_rfl) (by decide) (by decide) (by decide) (fun K hK => ?_) (fun K hK => ?_) (fun K hK => ?_)
        ·skip
         refine goes_ Try.func137 (by kernel_rfl) rfl #[.pointer (some ⟨B', 0, none⟩), .string (x.extract i x.size)] (by rfl) rfl rfl (by (try simp only [List.map_toArray, List.map_cons, List.map_nil]); rfl) ?_; (with_reducible refine (at_ k base' B' g' cap' d n us bad' (x.extract i x.size) q HQ.out hq _ (HU0.out.below HW.out)).mono ?_); rintro e w5 ⟨rfl, hb⟩; refine ⟨_, rfl, ?_⟩
         replace HW := zA (below_step HW.out hb)
         clear hb
         refine hK.out _ _ trivial (fun hHeld => ?_)
         clear hK K
         refine norm_ (a' := ?_) ?_ ?_
         rotate_left
         ·simp only [Act.put, List.setIfInBounds_toArray, List.set, i64_w, i32_w]
          rfl
         refine two_ (i := 10) (j := 11) (Ni := some 9) (Nj := some 10) #[true, true, true, true, true, true, true, true, true, true, true, false, false, false] #[true, true, true, true, true, true, true, true, true, true, false, true, false, false] rfl rfl rfl rfl (by kernel_rfl) (by decide) (by decide) (fun K hK => ?_) (fun K hK => ?_)
         ·skip
          refine box_step ?hg (N := 9) ?hd (cs := #[.int .i64 0, .int .i64 0]) (t := 27) ?hr ?_; (case hd => rfl); (case hg => rfl); (case hr => (go_simp; done))
          intro g10 hg wk hbox hb
          have HG10 := zA (show wr.drew.heap.size ≤ g10 by rw [hg]; exact below_size HW.out)
          have HX10 := zA hbox
          clear hg hbox
          replace HW := zA (below_step HW.out hb)
          clear hb
          refine hK.out _ _ trivial (fun hHeld => ?_)
          clear hK K
          refine norm_ (a' := ?_) ?_ ?_
          rotate_left
          ·show Act.put _ (some 9) _ = _
           simp only [Act.put, List.setIfInBounds_toArray, List.set, i64_w, i32_w]
           rfl
          refine one_ (i := 11) (N := some 10) #[true, true, true, true, true, true, true, true, true, true, true, true, false, false] rfl rfl (by kernel_rfl) (by decide) (fun K hK => ?_)
          refine box_step ?hg (N := 10) ?hd (cs := #[.int .i64 0, .int .i64 0]) (t := 27) ?hr ?_; (case hd => rfl); (case hg => rfl); (case hr => (go_simp; done))
          intro g11 hg wk hbox hb
          have HG11 := zA (show wr.drew.heap.size ≤ g11 by rw [hg]; exact below_size HW.out)
          have hN : g10 ≠ g11 := Nat.ne_of_lt (show g10 < g11 by rw [hg]; exact blk_lt HX10.out)
          replace HX10 := zA ((hb.block g10 (blk_lt HX10.out)).trans HX10.out)
          have HX11 := zA hbox
          clear hg hbox
          replace HW := zA (below_step HW.out hb)
          clear hb
          refine hK.out _ _ trivial (fun hHeld => ?_)
          clear hK K
          refine norm_ (a' := ?_) ?_ ?_
          rotate_left
          ·show Act.put _ (some 10) _ = _
           simp only [Act.put, List.setIfInBounds_toArray, List.set, i64_w, i32_w]
           rfl
          exact norm_ (by simp only [putAll, Act.put, List.setIfInBounds_toArray, List.set]) (hCont (g10, g11) _ ⟨HW.out, hN, HG10.out, HG11.out, HX10.out, HX11.out⟩)
         ·skip
          refine box_step ?hg (N := 10) ?hd (cs := #[.int .i64 0, .int .i64 0]) (t := 27) ?hr ?_; (case hd => rfl); (case hg => rfl); (case hr => (go_simp; done))
          intro g11 hg wk hbox hb
          have HG11 := zA (show wr.drew.heap.size ≤ g11 by rw [hg]; exact below_size HW.out)
          have HX11 := zA hbox
          clear hg hbox
          replace HW := zA (below_step HW.out hb)
          clear hb
          refine hK.out _ _ trivial (fun hHeld => ?_)
          clear hK K
          refine norm_ (a' := ?_) ?_ ?_
          rotate_left
          ·show Act.put _ (some 10) _ = _
           simp only [Act.put, List.setIfInBounds_toArray, List.set, i64_w, i32_w]
           rfl
          refine one_ (i := 10) (N := some 9) #[true, true, true, true, true, true, true, true, true, true, true, true, false, false] rfl rfl (by kernel_rfl) (by decide) (fun K hK => ?_)
          refine box_step ?hg (N := 9) ?hd (cs := #[.int .i64 0, .int .i64 0]) (t := 27) ?hr ?_; (case hd => rfl); (case hg => rfl); (case hr => (go_simp; done))
          intro g10 hg wk hbox hb
          have HG10 := zA (show wr.drew.heap.size ≤ g10 by rw [hg]; exact below_size HW.out)
          have hN : g10 ≠ g11 := Nat.ne_of_gt (show g11 < g10 by rw [hg]; exact blk_lt HX11.out)
          replace HX11 := zA ((hb.block g11 (blk_lt HX11.out)).trans HX11.out)
          have HX10 := zA hbox
          clear hg hbox
          replace HW := zA (below_step HW.out hb)
          clear hb
          refine hK.out _ _ trivial (fun hHeld => ?_)
          clear hK K
          refine norm_ (a' := ?_) ?_ ?_
          rotate_left
          ·show Act.put _ (some 9) _ = _
           simp only [Act.put, List.setIfInBounds_toArray, List.set, i64_w, i32_w]
           rfl
          exact norm_ (by simp only [putAll, Act.put, List.setIfInBounds_toArray, List.set]) (hCont (g10, g11) _ ⟨HW.out, hN, HG10.out, HG11.out, HX10.out, HX11.out⟩)
        ·skip
         refine box_step ?hg (N := 9) ?hd (cs := #[.int .i64 0, .int .i64 0]) (t := 27) ?hr ?_; (case hd => rfl); (case hg => rfl); (case hr => (go_simp; done))
         intro g10 hg wk hbox hb
         have HG10 := zA (show wr.drew.heap.size ≤ g10 by rw [hg]; exact below_size HW.out)
         have HX10 := zA hbox
         clear hg hbox
         replace HW := zA (below_step HW.out hb)
         clear hb
         refine hK.out _ _ trivial (fun hHeld => ?_)
         clear hK K
         refine norm_ (a' := ?_) ?_ ?_
         rotate_left
         ·show Act.put _ (some 9) _ = _
          simp only [Act.put, List.setIfInBounds_toArray, List.set, i64_w, i32_w]
          rfl
         refine two_ (i := 9) (j := 11) (Ni := some 55) (Nj := some 10) #[true, true, true, true, true, true, true, true, true, true, true, false, false, false] #[true, true, true, true, true, true, true, true, true, false, true, true, false, false] rfl rfl rfl rfl (by kernel_rfl) (by decide) (by decide) (fun K hK => ?_) (fun K hK => ?_)
         ·skip
          refine goes_ Try.func137 (by kernel_rfl) rfl #[.pointer (some ⟨B', 0, none⟩), .string (x.extract i x.size)] (by rfl) rfl rfl (by (try simp only [List.map_toArray, List.map_cons, List.map_nil]); rfl) ?_; (with_reducible refine (at_ k base' B' g' cap' d n us bad' (x.extract i x.size) q HQ.out hq _ (HU0.out.below HW.out)).mono ?_); rintro e w5 ⟨rfl, hb⟩; refine ⟨_, rfl, ?_⟩
          replace HX10 := zA ((hb.block g10 (blk_lt HX10.out)).trans HX10.out)
          replace HW := zA (below_step HW.out hb)
          clear hb
          refine hK.out _ _ trivial (fun hHeld => ?_)
          clear hK K
          refine norm_ (a' := ?_) ?_ ?_
          rotate_left
          ·simp only [Act.put, List.setIfInBounds_toArray, List.set, i64_w, i32_w]
           rfl
          refine one_ (i := 11) (N := some 10) #[true, true, true, true, true, true, true, true, true, true, true, true, false, false] rfl rfl (by kernel_rfl) (by decide) (fun K hK => ?_)
          refine box_step ?hg (N := 10) ?hd (cs := #[.int .i64 0, .int .i64 0]) (t := 27) ?hr ?_; (case hd => rfl); (case hg => rfl); (case hr => (go_simp; done))
          intro g11 hg wk hbox hb
          have HG11 := zA (show wr.drew.heap.size ≤ g11 by rw [hg]; exact below_size HW.out)
          have hN : g10 ≠ g11 := Nat.ne_of_lt (show g10 < g11 by rw [hg]; exact blk_lt HX10.out)
          replace HX10 := zA ((hb.block g10 (blk_lt HX10.out)).trans HX10.out)
          have HX11 := zA hbox
          clear hg hbox
          replace HW := zA (below_step HW.out hb)
          clear hb
          refine hK.out _ _ trivial (fun hHeld => ?_)
          clear hK K
          refine norm_ (a' := ?_) ?_ ?_
          rotate_left
          ·show Act.put _ (some 10) _ = _
           simp only [Act.put, List.setIfInBounds_toArray, List.set, i64_w, i32_w]
           rfl
          exact norm_ (by simp only [putAll, Act.put, List.setIfInBounds_toArray, List.set]) (hCont (g10, g11) _ ⟨HW.out, hN, HG10.out, HG11.out, HX10.out, HX11.out⟩)
         ·skip
          refine box_step ?hg (N := 10) ?hd (cs := #[.int .i64 0, .int .i64 0]) (t := 27) ?hr ?_; (case hd => rfl); (case hg => rfl); (case hr => (go_simp; done))
          intro g11 hg wk hbox hb
          have HG11 := zA (show wr.drew.heap.size ≤ g11 by rw [hg]; exact below_size HW.out)
          have hN : g10 ≠ g11 := Nat.ne_of_lt (show g10 < g11 by rw [hg]; exact blk_lt HX10.out)
          replace HX10 := zA ((hb.block g10 (blk_lt HX10.out)).trans HX10.out)
          have HX11 := zA hbox
          clear hg hbox
          replace HW := zA (below_step HW.out hb)
          clear hb
          refine hK.out _ _ trivial (fun hHeld => ?_)
          clear hK K
          refine norm_ (a' := ?_) ?_ ?_
          rotate_left
          ·show Act.put _ (some 10) _ = _
           simp only [Act.put, List.setIfInBounds_toArray, List.set, i64_w, i32_w]
           rfl
          refine one_ (i := 9) (N := some 55) #[true, true, true, true, true, true, true, true, true, true, true, true, false, false] rfl rfl (by kernel_rfl) (by decide) (fun K hK => ?_)
          refine goes_ Try.func137 (by kernel_rfl) rfl #[.pointer (some ⟨B', 0, none⟩), .string (x.extract i x.size)] (by rfl) rfl rfl (by (try simp only [List.map_toArray, List.map_cons, List.map_nil]); rfl) ?_; (with_reducible refine (at_ k base' B' g' cap' d n us bad' (x.extract i x.size) q HQ.out hq _ (HU0.out.below HW.out)).mono ?_); rintro e w5 ⟨rfl, hb⟩; refine ⟨_, rfl, ?_⟩
          replace HX10 := zA ((hb.block g10 (blk_lt HX10.out)).trans HX10.out)
          replace HX11 := zA ((hb.block g11 (blk_lt HX11.out)).trans HX11.out)
          replace HW := zA (below_step HW.out hb)
          clear hb
          refine hK.out _ _ trivial (fun hHeld => ?_)
          clear hK K
          refine norm_ (a' := ?_) ?_ ?_
          rotate_left
          ·simp only [Act.put, List.setIfInBounds_toArray, List.set, i64_w, i32_w]
           rfl
          exact norm_ (by simp only [putAll, Act.put, List.setIfInBounds_toArray, List.set]) (hCont (g10, g11) _ ⟨HW.out, hN, HG10.out, HG11.out, HX10.out, HX11.out⟩)
        ·skip
         refine box_step ?hg (N := 10) ?hd (cs := #[.int .i64 0, .int .i64 0]) (t := 27) ?hr ?_; (case hd => rfl); (case hg => rfl); (case hr => (go_simp; done))
         intro g11 hg wk hbox hb
         have HG11 := zA (show wr.drew.heap.size ≤ g11 by rw [hg]; exact below_size HW.out)
         have HX11 := zA hbox
         clear hg hbox
         replace HW := zA (below_step HW.out hb)
         clear hb
         refine hK.out _ _ trivial (fun hHeld => ?_)
         clear hK K
         refine norm_ (a' := ?_) ?_ ?_
         rotate_left
         ·show Act.put _ (some 10) _ = _
          simp only [Act.put, List.setIfInBounds_toArray, List.set, i64_w, i32_w]
          rfl
         refine two_ (i := 9) (j := 10) (Ni := some 55) (Nj := some 9) #[true, true, true, true, true, true, true, true, true, true, false, true, false, false] #[true, true, true, true, true, true, true, true, true, false, true, true, false, false] rfl rfl rfl rfl (by kernel_rfl) (by decide) (by decide) (fun K hK => ?_) (fun K hK => ?_)
         ·skip
          refine goes_ Try.func137 (by kernel_rfl) rfl #[.pointer (some ⟨B', 0, none⟩), .string (x.extract i x.size)] (by rfl) rfl rfl (by (try simp only [List.map_toArray, List.map_cons, List.map_nil]); rfl) ?_; (with_reducible refine (at_ k base' B' g' cap' d n us bad' (x.extract i x.size) q HQ.out hq _ (HU0.out.below HW.out)).mono ?_); rintro e w5 ⟨rfl, hb⟩; refine ⟨_, rfl, ?_⟩
          replace HX11 := zA ((hb.block g11 (blk_lt HX11.out)).trans HX11.out)
          replace HW := zA (below_step HW.out hb)
          clear hb
          refine hK.out _ _ trivial (fun hHeld => ?_)
          clear hK K
          refine norm_ (a' := ?_) ?_ ?_
          rotate_left
          ·simp only [Act.put, List.setIfInBounds_toArray, List.set, i64_w, i32_w]
           rfl
          refine one_ (i := 10) (N := some 9) #[true, true, true, true, true, true, true, true, true, true, true, true, false, false] rfl rfl (by kernel_rfl) (by decide) (fun K hK => ?_)
          refine box_step ?hg (N := 9) ?hd (cs := #[.int .i64 0, .int .i64 0]) (t := 27) ?hr ?_; (case hd => rfl); (case hg => rfl); (case hr => (go_simp; done))
          intro g10 hg wk hbox hb
          have HG10 := zA (show wr.drew.heap.size ≤ g10 by rw [hg]; exact below_size HW.out)
          have hN : g10 ≠ g11 := Nat.ne_of_gt (show g11 < g10 by rw [hg]; exact blk_lt HX11.out)
          replace HX11 := zA ((hb.block g11 (blk_lt HX11.out)).trans HX11.out)
          have HX10 := zA hbox
          clear hg hbox
          replace HW := zA (below_step HW.out hb)
          clear hb
          refine hK.out _ _ trivial (fun hHeld => ?_)
          clear hK K
          refine norm_ (a' := ?_) ?_ ?_
          rotate_left
          ·show Act.put _ (some 9) _ = _
           simp only [Act.put, List.setIfInBounds_toArray, List.set, i64_w, i32_w]
           rfl
          exact norm_ (by simp only [putAll, Act.put, List.setIfInBounds_toArray, List.set]) (hCont (g10, g11) _ ⟨HW.out, hN, HG10.out, HG11.out, HX10.out, HX11.out⟩)
         ·skip
          refine box_step ?hg (N := 9) ?hd (cs := #[.int .i64 0, .int .i64 0]) (t := 27) ?hr ?_; (case hd => rfl); (case hg => rfl); (case hr => (go_simp; done))
          intro g10 hg wk hbox hb
          have HG10 := zA (show wr.drew.heap.size ≤ g10 by rw [hg]; exact below_size HW.out)
          have hN : g10 ≠ g11 := Nat.ne_of_gt (show g11 < g10 by rw [hg]; exact blk_lt HX11.out)
          replace HX11 := zA ((hb.block g11 (blk_lt HX11.out)).trans HX11.out)
          have HX10 := zA hbox
          clear hg hbox
          replace HW := zA (below_step HW.out hb)
          clear hb
          refine hK.out _ _ trivial (fun hHeld => ?_)
          clear hK K
          refine norm_ (a' := ?_) ?_ ?_
          rotate_left
          ·show Act.put _ (some 9) _ = _
           simp only [Act.put, List.setIfInBounds_toArray, List.set, i64_w, i32_w]
           rfl
          refine one_ (i := 9) (N := some 55) #[true, true, true, true, true, true, true, true, true, true, true, true, false, false] rfl rfl (by kernel_rfl) (by decide) (fun K hK => ?_)
          refine goes_ Try.func137 (by kernel_rfl) rfl #[.pointer (some ⟨B', 0, none⟩), .string (x.extract i x.size)] (by rfl) rfl rfl (by (try simp only [List.map_toArray, List.map_cons, List.map_nil]); rfl) ?_; (with_reducible refine (at_ k base' B' g' cap' d n us bad' (x.extract i x.size) q HQ.out hq _ (HU0.out.below HW.out)).mono ?_); rintro e w5 ⟨rfl, hb⟩; refine ⟨_, rfl, ?_⟩
          replace HX10 := zA ((hb.block g10 (blk_lt HX10.out)).trans HX10.out)
          replace HX11 := zA ((hb.block g11 (blk_lt HX11.out)).trans HX11.out)
          replace HW := zA (below_step HW.out hb)
          clear hb
          refine hK.out _ _ trivial (fun hHeld => ?_)
          clear hK K
          refine norm_ (a' := ?_) ?_ ?_
          rotate_left
          ·simp only [Act.put, List.setIfInBounds_toArray, List.set, i64_w, i32_w]
           rfl
          exact norm_ (by simp only [putAll, Act.put, List.setIfInBounds_toArray, List.set]) (hCont (g10, g11) _ ⟨HW.out, hN, HG10.out, HG11.out, HX10.out, HX11.out⟩)
       ·skip
        refine box_step ?hg (N := 9) ?hd (cs := #[.int .i64 0, .int .i64 0]) (t := 27) ?hr ?_; (case hd => rfl); (case hg => rfl); (case hr => (go_simp; done))
        intro g10 hg wk hbox hb
        have HG10 := zA (show wr.drew.heap.size ≤ g10 by rw [hg]; exact below_size HW.out)
        have HX10 := zA hbox
        clear hg hbox
        replace HW := zA (below_step HW.out hb)
        clear hb
        refine hK.out _ _ trivial (fun hHeld => ?_)
        clear hK K
        refine norm_ (a' := ?_) ?_ ?_
        rotate_left
        ·show Act.put _ (some 9) _ = _
         simp only [Act.put, List.setIfInBounds_toArray, List.set, i64_w, i32_w]
         rfl
        refine two_ (i := 4) (j := 11) (Ni := some 50) (Nj := some 10) #[true, true, true, true, true, true, true, true, true, false, true, false, false, false] #[true, true, true, true, false, true, true, true, true, false, true, true, false, false] rfl rfl rfl rfl (by kernel_rfl) (by decide) (by decide) (fun K hK => ?_) (fun K hK => ?_)
        ·skip
         refine goes_ Try.func137 (by kernel_rfl) rfl #[.pointer (some ⟨B, 0, none⟩), .string (x.extract 0 i)] (by rfl) rfl rfl (by (try simp only [List.map_toArray, List.map_cons, List.map_nil]); rfl) ?_; (with_reducible refine (at_ k base B g cap d n vs true (x.extract 0 i) p HP.out hp _ (HT0.out.below HW.out)).mono ?_); rintro e w5 ⟨rfl, hb⟩; refine ⟨_, rfl, ?_⟩
         replace HX10 := zA ((hb.block g10 (blk_lt HX10.out)).trans HX10.out)
         replace HW := zA (below_step HW.out hb)
         clear hb
         refine hK.out _ _ trivial (fun hHeld => ?_)
         clear hK K
         refine norm_ (a' := ?_) ?_ ?_
         rotate_left
         ·simp only [Act.put, List.setIfInBounds_toArray, List.set, i64_w, i32_w]
          rfl
         refine two_ (i := 9) (j := 11) (Ni := some 55) (Nj := some 10) #[true, true, true, true, true, true, true, true, true, true, true, false, false, false] #[true, true, true, true, true, true, true, true, true, false, true, true, false, false] rfl rfl rfl rfl (by kernel_rfl) (by decide) (by decide) (fun K hK => ?_) (fun K hK => ?_)
         ·skip
          refine goes_ Try.func137 (by kernel_rfl) rfl #[.pointer (some ⟨B', 0, none⟩), .string (x.extract i x.size)] (by rfl) rfl rfl (by (try simp only [List.map_toArray, List.map_cons, List.map_nil]); rfl) ?_; (with_reducible refine (at_ k base' B' g' cap' d n us bad' (x.extract i x.size) q HQ.out hq _ (HU0.out.below HW.out)).mono ?_); rintro e w5 ⟨rfl, hb⟩; refine ⟨_, rfl, ?_⟩
          replace HX10 := zA ((hb.block g10 (blk_lt HX10.out)).trans HX10.out)
          replace HW := zA (below_step HW.out hb)
          clear hb
          refine hK.out _ _ trivial (fun hHeld => ?_)
          clear hK K
          refine norm_ (a' := ?_) ?_ ?_
          rotate_left
          ·simp only [Act.put, List.setIfInBounds_toArray, List.set, i64_w, i32_w]
           rfl
          refine one_ (i := 11) (N := some 10) #[true, true, true, true, true, true, true, true, true, true, true, true, false, false] rfl rfl (by kernel_rfl) (by decide) (fun K hK => ?_)
          refine box_step ?hg (N := 10) ?hd (cs := #[.int .i64 0, .int .i64 0]) (t := 27) ?hr ?_; (case hd => rfl); (case hg => rfl); (case hr => (go_simp; done))
          intro g11 hg wk hbox hb
          have HG11 := zA (show wr.drew.heap.size ≤ g11 by rw [hg]; exact below_size HW.out)
          have hN : g10 ≠ g11 := Nat.ne_of_lt (show g10 < g11 by rw [hg]; exact blk_lt HX10.out)
          replace HX10 := zA ((hb.block g10 (blk_lt HX10.out)).trans HX10.out)
          have HX11 := zA hbox
          clear hg hbox
          replace HW := zA (below_step HW.out hb)
          clear hb
          refine hK.out _ _ trivial (fun hHeld => ?_)
          clear hK K
          refine norm_ (a' := ?_) ?_ ?_
          rotate_left
          ·show Act.put _ (some 10) _ = _
           simp only [Act.put, List.setIfInBounds_toArray, List.set, i64_w, i32_w]
           rfl
          exact norm_ (by simp only [putAll, Act.put, List.setIfInBounds_toArray, List.set]) (hCont (g10, g11) _ ⟨HW.out, hN, HG10.out, HG11.out, HX10.out, HX11.out⟩)
         ·skip
          refine box_step ?hg (N := 10) ?hd (cs := #[.int .i64 0, .int .i64 0]) (t := 27) ?hr ?_; (case hd => rfl); (case hg => rfl); (case hr => (go_simp; done))
          intro g11 hg wk hbox hb
          have HG11 := zA (show wr.drew.heap.size ≤ g11 by rw [hg]; exact below_size HW.out)
          have hN : g10 ≠ g11 := Nat.ne_of_lt (show g10 < g11 by rw [hg]; exact blk_lt HX10.out)
          replace HX10 := zA ((hb.block g10 (blk_lt HX10.out)).trans HX10.out)
          have HX11 := zA hbox
          clear hg hbox
          replace HW := zA (below_step HW.out hb)
          clear hb
          refine hK.out _ _ trivial (fun hHeld => ?_)
          clear hK K
          refine norm_ (a' := ?_) ?_ ?_
          rotate_left
          ·show Act.put _ (some 10) _ = _
           simp only [Act.put, List.setIfInBounds_toArray, List.set, i64_w, i32_w]
           rfl
          refine one_ (i := 9) (N := some 55) #[true, true, true, true, true, true, true, true, true, true, true, true, false, false] rfl rfl (by kernel_rfl) (by decide) (fun K hK => ?_)
          refine goes_ Try.func137 (by kernel_rfl) rfl #[.pointer (some ⟨B', 0, none⟩), .string (x.extract i x.size)] (by rfl) rfl rfl (by (try simp only [List.map_toArray, List.map_cons, List.map_nil]); rfl) ?_; (with_reducible refine (at_ k base' B' g' cap' d n us bad' (x.extract i x.size) q HQ.out hq _ (HU0.out.below HW.out)).mono ?_); rintro e w5 ⟨rfl, hb⟩; refine ⟨_, rfl, ?_⟩
          replace HX10 := zA ((hb.block g10 (blk_lt HX10.out)).trans HX10.out)
          replace HX11 := zA ((hb.block g11 (blk_lt HX11.out)).trans HX11.out)
          replace HW := zA (below_step HW.out hb)
          clear hb
          refine hK.out _ _ trivial (fun hHeld => ?_)
          clear hK K
          refine norm_ (a' := ?_) ?_ ?_
          rotate_left
          ·simp only [Act.put, List.setIfInBounds_toArray, List.set, i64_w, i32_w]
           rfl
          exact norm_ (by simp only [putAll, Act.put, List.setIfInBounds_toArray, List.set]) (hCont (g10, g11) _ ⟨HW.out, hN, HG10.out, HG11.out, HX10.out, HX11.out⟩)
        ·skip
         refine box_step ?hg (N := 10) ?hd (cs := #[.int .i64 0, .int .i64 0]) (t := 27) ?hr ?_; (case hd => rfl); (case hg => rfl); (case hr => (go_simp; done))
         intro g11 hg wk hbox hb
         have HG11 := zA (show wr.drew.heap.size ≤ g11 by rw [hg]; exact below_size HW.out)
         have hN : g10 ≠ g11 := Nat.ne_of_lt (show g10 < g11 by rw [hg]; exact blk_lt HX10.out)
         replace HX10 := zA ((hb.block g10 (blk_lt HX10.out)).trans HX10.out)
         have HX11 := zA hbox
         clear hg hbox
         replace HW := zA (below_step HW.out hb)
         clear hb
         refine hK.out _ _ trivial (fun hHeld => ?_)
         clear hK K
         refine norm_ (a' := ?_) ?_ ?_
         rotate_left
         ·show Act.put _ (some 10) _ = _
          simp only [Act.put, List.setIfInBounds_toArray, List.set, i64_w, i32_w]
          rfl
         refine one_ (i := 4) (N := some 50) #[true, true, true, true, true, true, true, true, true, false, true, true, false, false] rfl rfl (by kernel_rfl) (by decide) (fun K hK => ?_)
         refine goes_ Try.func137 (by kernel_rfl) rfl #[.pointer (some ⟨B, 0, none⟩), .string (x.extract 0 i)] (by rfl) rfl rfl (by (try simp only [List.map_toArray, List.map_cons, List.map_nil]); rfl) ?_; (with_reducible refine (at_ k base B g cap d n vs true (x.extract 0 i) p HP.out hp _ (HT0.out.below HW.out)).mono ?_); rintro e w5 ⟨rfl, hb⟩; refine ⟨_, rfl, ?_⟩
         replace HX10 := zA ((hb.block g10 (blk_lt HX10.out)).trans HX10.out)
         replace HX11 := zA ((hb.block g11 (blk_lt HX11.out)).trans HX11.out)
         replace HW := zA (below_step HW.out hb)
         clear hb
         refine hK.out _ _ trivial (fun hHeld => ?_)
         clear hK K
         refine norm_ (a' := ?_) ?_ ?_
         rotate_left
         ·simp only [Act.put, List.setIfInBounds_toArray, List.set, i64_w, i32_w]
          rfl
         refine one_ (i := 9) (N := some 55) #[true, true, true, true, true, true, true, true, true, true, true, true, false, false] rfl rfl (by kernel_rfl) (by decide) (fun K hK => ?_)
         refine goes_ Try.func137 (by kernel_rfl) rfl #[.pointer (some ⟨B', 0, none⟩), .string (x.extract i x.size)] (by rfl) rfl rfl (by (try simp only [List.map_toArray, List.map_cons, List.map_nil]); rfl) ?_; (with_reducible refine (at_ k base' B' g' cap' d n us bad' (x.extract i x.size) q HQ.out hq _ (HU0.out.below HW.out)).mono ?_); rintro e w5 ⟨rfl, hb⟩; refine ⟨_, rfl, ?_⟩
         replace HX10 := zA ((hb.block g10 (blk_lt HX10.out)).trans HX10.out)
         replace HX11 := zA ((hb.block g11 (blk_lt HX11.out)).trans HX11.out)
         replace HW := zA (below_step HW.out hb)
         clear hb
         refine hK.out _ _ trivial (fun hHeld => ?_)
         clear hK K
         refine norm_ (a' := ?_) ?_ ?_
         rotate_left
         ·simp only [Act.put, List.setIfInBounds_toArray, List.set, i64_w, i32_w]
          rfl
         exact norm_ (by simp only [putAll, Act.put, List.setIfInBounds_toArray, List.set]) (hCont (g10, g11) _ ⟨HW.out, hN, HG10.out, HG11.out, HX10.out, HX11.out⟩)
       ·skip
        refine box_step ?hg (N := 10) ?hd (cs := #[.int .i64 0, .int .i64 0]) (t := 27) ?hr ?_; (case hd => rfl); (case hg => rfl); (case hr => (go_simp; done))
        intro g11 hg wk hbox hb
        have HG11 := zA (show wr.drew.heap.size ≤ g11 by rw [hg]; exact below_size HW.out)
        have HX11 := zA hbox
        clear hg hbox
        replace HW := zA (below_step HW.out hb)
        clear hb
        refine hK.out _ _ trivial (fun hHeld => ?_)
        clear hK K
        refine norm_ (a' := ?_) ?_ ?_
        rotate_left
        ·show Act.put _ (some 10) _ = _
         simp only [Act.put, List.setIfInBounds_toArray, List.set, i64_w, i32_w]
         rfl
        refine two_ (i := 4) (j := 10) (Ni := some 50) (Nj := some 9) #[true, true, true, true, true, true, true, true, true, false, false, true, false, false] #[true, true, true, true, false, true, true, true, true, false, true, true, false, false] rfl rfl rfl rfl (by kernel_rfl) (by decide) (by decide) (fun K hK => ?_) (fun K hK => ?_)
        ·skip
         refine goes_ Try.func137 (by kernel_rfl) rfl #[.pointer (some ⟨B, 0, none⟩), .string (x.extract 0 i)] (by rfl) rfl rfl (by (try simp only [List.map_toArray, List.map_cons, List.map_nil]); rfl) ?_; (with_reducible refine (at_ k base B g cap d n vs true (x.extract 0 i) p HP.out hp _ (HT0.out.below HW.out)).mono ?_); rintro e w5 ⟨rfl, hb⟩; refine ⟨_, rfl, ?_⟩
         replace HX11 := zA ((hb.block g11 (blk_lt HX11.out)).trans HX11.out)
         replace HW := zA (below_step HW.out hb)
         clear hb
         refine hK.out _ _ trivial (fun hHeld => ?_)
         clear hK K
         refine norm_ (a' := ?_) ?_ ?_
         rotate_left
         ·simp only [Act.put, List.setIfInBounds_toArray, List.set, i64_w, i32_w]
          rfl
         refine two_ (i := 9) (j := 10) (Ni := some 55) (Nj := some 9) #[true, true, true, true, true, true, true, true, true, true, false, true, false, false] #[true, true, true, true, true, true, true, true, true, false, true, true, false, false] rfl rfl rfl rfl (by kernel_rfl) (by decide) (by decide) (fun K hK => ?_) (fun K hK => ?_)
         ·skip
          refine goes_ Try.func137 (by kernel_rfl) rfl #[.pointer (some ⟨B', 0, none⟩), .string (x.extract i x.size)] (by rfl) rfl rfl (by (try simp only [List.map_toArray, List.map_cons, List.map_nil]); rfl) ?_; (with_reducible refine (at_ k base' B' g' cap' d n us bad' (x.extract i x.size) q HQ.out hq _ (HU0.out.below HW.out)).mono ?_); rintro e w5 ⟨rfl, hb⟩; refine ⟨_, rfl, ?_⟩
          replace HX11 := zA ((hb.block g11 (blk_lt HX11.out)).trans HX11.out)
          replace HW := zA (below_step HW.out hb)
          clear hb
          refine hK.out _ _ trivial (fun hHeld => ?_)
          clear hK K
          refine norm_ (a' := ?_) ?_ ?_
          rotate_left
          ·simp only [Act.put, List.setIfInBounds_toArray, List.set, i64_w, i32_w]
           rfl
          refine one_ (i := 10) (N := some 9) #[true, true, true, true, true, true, true, true, true, true, true, true, false, false] rfl rfl (by kernel_rfl) (by decide) (fun K hK => ?_)
          refine box_step ?hg (N := 9) ?hd (cs := #[.int .i64 0, .int .i64 0]) (t := 27) ?hr ?_; (case hd => rfl); (case hg => rfl); (case hr => (go_simp; done))
          intro g10 hg wk hbox hb
          have HG10 := zA (show wr.drew.heap.size ≤ g10 by rw [hg]; exact below_size HW.out)
          have hN : g10 ≠ g11 := Nat.ne_of_gt (show g11 < g10 by rw [hg]; exact blk_lt HX11.out)
          replace HX11 := zA ((hb.block g11 (blk_lt HX11.out)).trans HX11.out)
          have HX10 := zA hbox
          clear hg hbox
          replace HW := zA (below_step HW.out hb)
          clear hb
          refine hK.out _ _ trivial (fun hHeld => ?_)
          clear hK K
          refine norm_ (a' := ?_) ?_ ?_
          rotate_left
          ·show Act.put _ (some 9) _ = _
           simp only [Act.put, List.setIfInBounds_toArray, List.set, i64_w, i32_w]
           rfl
          exact norm_ (by simp only [putAll, Act.put, List.setIfInBounds_toArray, List.set]) (hCont (g10, g11) _ ⟨HW.out, hN, HG10.out, HG11.out, HX10.out, HX11.out⟩)
         ·skip
          refine box_step ?hg (N := 9) ?hd (cs := #[.int .i64 0, .int .i64 0]) (t := 27) ?hr ?_; (case hd => rfl); (case hg => rfl); (case hr => (go_simp; done))
          intro g10 hg wk hbox hb
          have HG10 := zA (show wr.drew.heap.size ≤ g10 by rw [hg]; exact below_size HW.out)
          have hN : g10 ≠ g11 := Nat.ne_of_gt (show g11 < g10 by rw [hg]; exact blk_lt HX11.out)
          replace HX11 := zA ((hb.block g11 (blk_lt HX11.out)).trans HX11.out)
          have HX10 := zA hbox
          clear hg hbox
          replace HW := zA (below_step HW.out hb)
          clear hb
          refine hK.out _ _ trivial (fun hHeld => ?_)
          clear hK K
          refine norm_ (a' := ?_) ?_ ?_
          rotate_left
          ·show Act.put _ (some 9) _ = _
           simp only [Act.put, List.setIfInBounds_toArray, List.set, i64_w, i32_w]
           rfl
          refine one_ (i := 9) (N := some 55) #[true, true, true, true, true, true, true, true, true, true, true, true, false, false] rfl rfl (by kernel_rfl) (by decide) (fun K hK => ?_)
          refine goes_ Try.func137 (by kernel_rfl) rfl #[.pointer (some ⟨B', 0, none⟩), .string (x.extract i x.size)] (by rfl) rfl rfl (by (try simp only [List.map_toArray, List.map_cons, List.map_nil]); rfl) ?_; (with_reducible refine (at_ k base' B' g' cap' d n us bad' (x.extract i x.size) q HQ.out hq _ (HU0.out.below HW.out)).mono ?_); rintro e w5 ⟨rfl, hb⟩; refine ⟨_, rfl, ?_⟩
          replace HX10 := zA ((hb.block g10 (blk_lt HX10.out)).trans HX10.out)
          replace HX11 := zA ((hb.block g11 (blk_lt HX11.out)).trans HX11.out)
          replace HW := zA (below_step HW.out hb)
          clear hb
          refine hK.out _ _ trivial (fun hHeld => ?_)
          clear hK K
          refine norm_ (a' := ?_) ?_ ?_
          rotate_left
          ·simp only [Act.put, List.setIfInBounds_toArray, List.set, i64_w, i32_w]
           rfl
          exact norm_ (by simp only [putAll, Act.put, List.setIfInBounds_toArray, List.set]) (hCont (g10, g11) _ ⟨HW.out, hN, HG10.out, HG11.out, HX10.out, HX11.out⟩)
        ·skip
         refine box_step ?hg (N := 9) ?hd (cs := #[.int .i64 0, .int .i64 0]) (t := 27) ?hr ?_; (case hd => rfl); (case hg => rfl); (case hr => (go_simp; done))
         intro g10 hg wk hbox hb
         have HG10 := zA (show wr.drew.heap.size ≤ g10 by rw [hg]; exact below_size HW.out)
         have hN : g10 ≠ g11 := Nat.ne_of_gt (show g11 < g10 by rw [hg]; exact blk_lt HX11.out)
         replace HX11 := zA ((hb.block g11 (blk_lt HX11.out)).trans HX11.out)
         have HX10 := zA hbox
         clear hg hbox
         replace HW := zA (below_step HW.out hb)
         clear hb
         refine hK.out _ _ trivial (fun hHeld => ?_)
         clear hK K
         refine norm_ (a' := ?_) ?_ ?_
         rotate_left
         ·show Act.put _ (some 9) _ = _
          simp only [Act.put, List.setIfInBounds_toArray, List.set, i64_w, i32_w]
          rfl
         refine one_ (i := 4) (N := some 50) #[true, true, true, true, true, true, true, true, true, false, true, true, false, false] rfl rfl (by kernel_rfl) (by decide) (fun K hK => ?_)
         refine goes_ Try.func137 (by kernel_rfl) rfl #[.pointer (some ⟨B, 0, none⟩), .string (x.extract 0 i)] (by rfl) rfl rfl (by (try simp only [List.map_toArray, List.map_cons, List.map_nil]); rfl) ?_; (with_reducible refine (at_ k base B g cap d n vs true (x.extract 0 i) p HP.out hp _ (HT0.out.below HW.out)).mono ?_); rintro e w5 ⟨rfl, hb⟩; refine ⟨_, rfl, ?_⟩
         replace HX10 := zA ((hb.block g10 (blk_lt HX10.out)).trans HX10.out)
         replace HX11 := zA ((hb.block g11 (blk_lt HX11.out)).trans HX11.out)
         replace HW := zA (below_step HW.out hb)
         clear hb
         refine hK.out _ _ trivial (fun hHeld => ?_)
         clear hK K
         refine norm_ (a' := ?_) ?_ ?_
         rotate_left
         ·simp only [Act.put, List.setIfInBounds_toArray, List.set, i64_w, i32_w]
          rfl
         refine one_ (i := 9) (N := some 55) #[true, true, true, true, true, true, true, true, true, true, true, true, false, false] rfl rfl (by kernel_rfl) (by decide) (fun K hK => ?_)
         refine goes_ Try.func137 (by kernel_rfl) rfl #[.pointer (some ⟨B', 0, none⟩), .string (x.extract i x.size)] (by rfl) rfl rfl (by (try simp only [List.map_toArray, List.map_cons, List.map_nil]); rfl) ?_; (with_reducible refine (at_ k base' B' g' cap' d n us bad' (x.extract i x.size) q HQ.out hq _ (HU0.out.below HW.out)).mono ?_); rintro e w5 ⟨rfl, hb⟩; refine ⟨_, rfl, ?_⟩
         replace HX10 := zA ((hb.block g10 (blk_lt HX10.out)).trans HX10.out)
         replace HX11 := zA ((hb.block g11 (blk_lt HX11.out)).trans HX11.out)
         replace HW := zA (below_step HW.out hb)
         clear hb
         refine hK.out _ _ trivial (fun hHeld => ?_)
         clear hK K
         refine norm_ (a' := ?_) ?_ ?_
         rotate_left
         ·simp only [Act.put, List.setIfInBounds_toArray, List.set, i64_w, i32_w]
          rfl
         exact norm_ (by simp only [putAll, Act.put, List.setIfInBounds_toArray, List.set]) (hCont (g10, g11) _ ⟨HW.out, hN, HG10.out, HG11.out, HX10.out, HX11.out⟩)
      rintro ⟨ga, gb⟩ w9 ⟨hjb, hjn, hj1, hj2, hx1, hx2⟩
      dsimp only at hjn hj1 hj2 hx1 hx2
      obtain ⟨c00, c01, cf0⟩ := two_cells hx1
      have cf00 := cf0 0
      have cf01 := cf0 1
      clear cf0
      obtain ⟨c10, c11, cf1⟩ := two_cells hx2
      have cf10 := cf1 0
      have cf11 := cf1 1
      clear cf1
      refine norm_ (a' := ?_) ?_ ?_
      rotate_left
      ·simp only [putAll, Act.put, List.setIfInBounds_toArray, List.set]
       rfl
      refine one_ (i := 12) (N := none) #[true, true, true, true, true, true, true, true, true, true, true, true, true, false] rfl rfl (by kernel_rfl) (by decide) (fun K hK => ?_)
      go_simp
      refine hK.out _ _ trivial (fun hHeld => ?_)
      clear hK K
      have d0 : ((w9.setCell ⟨ga, 0, none⟩ (.int .i64 (rd_T27 vs (p : Int)).f0)).setCell ⟨ga, 1, none⟩ (.int .i64 (rd_T27 vs (p : Int)).f1)).cell? ⟨gb, 0, none⟩ = some (.int .i64 0) := cell_far hjn.symm (cell_far hjn.symm c10)
      have d1 : ((w9.setCell ⟨ga, 0, none⟩ (.int .i64 (rd_T27 vs (p : Int)).f0)).setCell ⟨ga, 1, none⟩ (.int .i64 (rd_T27 vs (p : Int)).f1)).cell? ⟨gb, 1, none⟩ = some (.int .i64 0) := cell_far hjn.symm (cell_far hjn.symm c11)
      refine one_ (i := 13) (N := none) #[true, true, true, true, true, true, true, true, true, true, true, true, true, true] rfl rfl (by kernel_rfl) (by decide) (fun K hK => ?_)
      go_simp
      refine hK.out _ _ trivial (fun hHeld => ?_)
      clear hK K
      refine done_ (by kernel_rfl) ?_
      have hA := blk_put (cs' := #[.int .i64 (rd_T27 vs (p : Int)).f0, .int .i64 (rd_T27 vs (p : Int)).f1]) (blk_put (cs' := #[.int .i64 (rd_T27 vs (p : Int)).f0, .int .i64 0]) hx1 0 (.int .i64 (rd_T27 vs (p : Int)).f0) rfl) 1 (.int .i64 (rd_T27 vs (p : Int)).f1) rfl
      have hB0 := ((Below.heap_setCell _ ⟨ga, 1, none⟩ (.int .i64 (rd_T27 vs (p : Int)).f1) gb hjn.symm).trans (Below.heap_setCell w9 ⟨ga, 0, none⟩ (.int .i64 (rd_T27 vs (p : Int)).f0) gb hjn.symm)).trans hx2
      have XB := zA (show ((((w9.setCell ⟨ga, 0, none⟩ (.int .i64 (rd_T27 vs (p : Int)).f0)).setCell ⟨ga, 1, none⟩ (.int .i64 (rd_T27 vs (p : Int)).f1)).setCell ⟨gb, 0, none⟩ (.int .i64 (rd_T27 us (q : Int)).f0)).setCell ⟨gb, 1, none⟩ (.int .i64 (rd_T27 us (q : Int)).f1)).heap[gb]? = some (.cells #[.int .i64 (rd_T27 us (q : Int)).f0, .int .i64 (rd_T27 us (q : Int)).f1] 27 (0, 0)) from blk_put (cs' := #[.int .i64 (rd_T27 us (q : Int)).f0, .int .i64 (rd_T27 us (q : Int)).f1]) (blk_put (cs' := #[.int .i64 (rd_T27 us (q : Int)).f0, .int .i64 0]) hB0 0 _ rfl) 1 _ rfl)
      have XA := zA (show ((((w9.setCell ⟨ga, 0, none⟩ (.int .i64 (rd_T27 vs (p : Int)).f0)).setCell ⟨ga, 1, none⟩ (.int .i64 (rd_T27 vs (p : Int)).f1)).setCell ⟨gb, 0, none⟩ (.int .i64 (rd_T27 us (q : Int)).f0)).setCell ⟨gb, 1, none⟩ (.int .i64 (rd_T27 us (q : Int)).f1)).heap[ga]? = some (.cells #[.int .i64 (rd_T27 vs (p : Int)).f0, .int .i64 (rd_T27 vs (p : Int)).f1] 27 (0, 0)) from ((Below.heap_setCell _ ⟨gb, 1, none⟩ _ ga hjn).trans (Below.heap_setCell _ ⟨gb, 0, none⟩ _ ga hjn)).trans hA)
      have HT10 := zA (show Tab ((((w9.setCell ⟨ga, 0, none⟩ (.int .i64 (rd_T27 vs (p : Int)).f0)).setCell ⟨ga, 1, none⟩ (.int .i64 (rd_T27 vs (p : Int)).f1)).setCell ⟨gb, 0, none⟩ (.int .i64 (rd_T27 us (q : Int)).f0)).setCell ⟨gb, 1, none⟩ (.int .i64 (rd_T27 us (q : Int)).f1)) w.heap.size Bo go capo d n os bo from (HO0.out.below hjb).move (fun kk hk => by have h1 : kk < wr.drew.heap.size := (by rcases hk with rfl | rfl; exact HO0.out.ltB; exact HO0.out.lt); exact (Below.heap_setCell _ ⟨gb, 1, none⟩ _ kk (by have := hj2; show kk ≠ gb; omega)).trans ((Below.heap_setCell _ ⟨gb, 0, none⟩ _ kk (by show kk ≠ gb; omega)).trans ((Below.heap_setCell _ ⟨ga, 1, none⟩ _ kk (by show kk ≠ ga; omega)).trans (Below.heap_setCell _ ⟨ga, 0, none⟩ _ kk (by show kk ≠ ga; omega))))))
      have WR10 := zA (show Kd.R Kd.string 9 ((((w9.setCell ⟨ga, 0, none⟩ (.int .i64 (rd_T27 vs (p : Int)).f0)).setCell ⟨ga, 1, none⟩ (.int .i64 (rd_T27 vs (p : Int)).f1)).setCell ⟨gb, 0, none⟩ (.int .i64 (rd_T27 us (q : Int)).f0)).setCell ⟨gb, 1, none⟩ (.int .i64 (rd_T27 us (q : Int)).f1)) w.heap.size (fun k => k = gw) (.slice (some ⟨gw, 0, none⟩) ws.length cw) ws from Kd.R_move (Kd.R_below WR0.out hjb) (fun kk hk => by have h1 : kk < wr.drew.heap.size := (own_lt (Kd.R_own WR0.out).choose_spec kk (by simp [Value.ownBlock, hk])); exact (Below.heap_setCell _ ⟨gb, 1, none⟩ _ kk (by show kk ≠ gb; omega)).trans ((Below.heap_setCell _ ⟨gb, 0, none⟩ _ kk (by show kk ≠ gb; omega)).trans ((Below.heap_setCell _ ⟨ga, 1, none⟩ _ kk (by show kk ≠ ga; omega)).trans (Below.heap_setCell _ ⟨ga, 0, none⟩ _ kk (by show kk ≠ ga; omega))))))
      have BB10 := zA (show Below w.heap.size w ((((w9.setCell ⟨ga, 0, none⟩ (.int .i64 (rd_T27 vs (p : Int)).f0)).setCell ⟨ga, 1, none⟩ (.int .i64 (rd_T27 vs (p : Int)).f1)).setCell ⟨gb, 0, none⟩ (.int .i64 (rd_T27 us (q : Int)).f0)).setCell ⟨gb, 1, none⟩ (.int .i64 (rd_T27 us (q : Int)).f1)) from below_set (below_set (below_set (below_set (below_step BB0.out hjb) (by omega)) (by omega)) (by omega)) (by omega))
      clear d0 d1 c00 c01 c10 c11 cf00 cf01 cf10 cf11 hA hB0 hx1 hx2 hjb
      generalize ((((w9.setCell ⟨ga, 0, none⟩ (.int .i64 (rd_T27 vs (p : Int)).f0)).setCell ⟨ga, 1, none⟩ (.int .i64 (rd_T27 vs (p : Int)).f1)).setCell ⟨gb, 0, none⟩ (.int .i64 (rd_T27 us (q : Int)).f0)).setCell ⟨gb, 1, none⟩ (.int .i64 (rd_T27 us (q : Int)).f1)) = w10 at XA XB HT10 WR10 BB10 ⊢

      have e0 := (blk_cell XA.out 0).trans (show _ = some (Value.int .i64 (rd_T27 vs (p : Int)).f0) from rfl)
      have e1 := (blk_cell XA.out 1).trans (show _ = some (Value.int .i64 (rd_T27 vs (p : Int)).f1) from rfl)
      have e2 := (blk_cell XB.out 0).trans (show _ = some (Value.int .i64 (rd_T27 us (q : Int)).f0) from rfl)
      have e3 := (blk_cell XB.out 1).trans (show _ = some (Value.int .i64 (rd_T27 us (q : Int)).f1) from rfl)
      by_cases ha : (rd_T27 vs (p : Int)).f0 = 0
      ·have H := HH.out
       rw [if_pos (Or.inl ha)] at H
       have a1 : ((rd_T27 vs (p : Int)).f0 != 0) = false := by rw [ha]; rfl
       have a2 : ((rd_T27 vs (p : Int)).f0 == 0) = true := by rw [ha]; rfl
       clear ha
       go_wp2
       exact ⟨⟨i + 1, os, bo, by omega, by go_num, ⟨H⟩, HL, HT10, WR10, BB10⟩, by simp [intOf]; omega⟩
      ·have a1 : ((rd_T27 vs (p : Int)).f0 != 0) = true := bne_iff_ne.mpr ha
       have a2 : ((rd_T27 vs (p : Int)).f0 == 0) = false := beq_eq_false_iff_ne.mpr ha
       by_cases hb : (rd_T27 us (q : Int)).f0 = 0
       ·have H := HH.out
        rw [if_pos (Or.inr hb)] at H
        have b1 : ((rd_T27 us (q : Int)).f0 != 0) = false := by rw [hb]; rfl
        have b2 : ((rd_T27 us (q : Int)).f0 == 0) = true := by rw [hb]; rfl
        clear ha hb
        go_wp2
        exact ⟨⟨i + 1, os, bo, by omega, by go_num, ⟨H⟩, HL, HT10, WR10, BB10⟩, by simp [intOf]; omega⟩
       ·have b1 : ((rd_T27 us (q : Int)).f0 != 0) = true := bne_iff_ne.mpr hb
        have b2 : ((rd_T27 us (q : Int)).f0 == 0) = false := beq_eq_false_iff_ne.mpr hb
        have H := HH.out
        rw [if_neg (not_or.2 ⟨ha, hb⟩)] at H
        clear ha hb
        obtain ⟨⟨m0, m1, m2⟩, AM, H⟩ := Option.bind_eq_some_iff.mp H
        obtain ⟨jj, AJ, H⟩ := Option.bind_eq_some_iff.mp H
        by_cases hjj : 0 ≤ jj ∧ jj < (os.length : Int)
        ·rw [if_pos hjj] at H
         obtain ⟨⟨s0_, s1_, s2_⟩, AS, H⟩ := Option.bind_eq_some_iff.mp H
         obtain ⟨jj, rfl⟩ := Int.eq_ofNat_of_zero_le hjj.1
         have hjl : jj < os.length := by omega
         dsimp only at H AS
         rw [Int.toNat_natCast] at H
         have AM := zA AM
         have AJ := zA AJ
         have AS := zA AS
         have HN1 := zA H
         clear H hjj
         go_wp2_with (go_at_call 138; refine (addTimes k w.heap.size Bo go capo d n os bo x jj _ _ _ _ m0 m1 s0_ s1_ m2 s2_ AJ.out hjl AM.out AS.out _ HT10.out).mono ?_; rintro e w11 ⟨rfl, ht, hto, hbb⟩; have HT11 := zA ht; have hgl := own_lt (Kd.R_own WR10.out).choose_spec gw (by simp [Value.ownBlock]); have WR11 := zA (Kd.R_move WR10.out (fun kk hk => by subst hk; exact hto.2 _ hgl hgB.symm hgg.symm)); have BB11 := zA (BB10.out.trans (hbb w.heap.size hBo hgo)); clear ht hto hbb hgl)
         exact ⟨⟨i + 1, _, _, by omega, by go_num, HN1, ⟨(addV_len2 _ _ _ _ _).trans hol⟩, HT11, WR11, BB11⟩, by simp [intOf]; omega⟩
        ·rw [if_neg hjj] at H
         exact absurd H (by simp)
     ·rw [if_neg hpq] at H
      exact absurd H (by simp)
    ·obtain rfl : i = x.size + 1 := by omega
     have H := H.out
     rw [Nat.sub_self] at H
     simp only [timesI] at H
     cases H
     have c1 : decide (((x.size + 1 : Nat) : Int) < wrap64 ((x.size : Int) + 1)) = false := by rw [wrap_small x.size hws]; exact decide_eq_false (by omega)
     have c2 : (((x.size : Int) + 1) < wrap64 ((x.size : Int) + 1)) = False := eq_false (by rw [wrap_small x.size hws]; omega)
     go_wp2
     exact ⟨⟨j + 1, _, _, by omega, by go_num, HN, HL, HTo, WR, BB⟩, by simp [intOf]; omega⟩
  ·obtain rfl : j = ws.length := by omega
   have H := H.out
   rw [List.drop_length] at H
   simp only [timesO] at H
   cases H
   go_wp2
   exact bodyPost_ret (results_tmp rfl _ _ _) rfl ⟨Bo, rfl, ⟨go, capo, HTo.out⟩, BB.out⟩
set_option maxHeartbeats 32000000 in
set_option maxRecDepth 100000 in
theorem times_false (k : Nat) (d n : Int) (ws : List ByteArray) (hk : impl_allWords.f k d n = some ws) (h1 : 1 ≤ ws.length) (h2 : ws.length ≤ 1000) (hx : ∀ x ∈ ws, x.size ≤ 1000) (base B g cap : Nat) (vs : List S27) (base' B' g' cap' : Nat) (us : List S27) (bad' : Bool) (r : List S27 × Bool) (hs : timesO k d vs us ws (List.replicate ws.length ⟨0, 1⟩) (false || bad') = some r) (w : World) (h : Tab w base B g cap d n vs false) (h' : Tab w base' B' g' cap' d n us bad') :
 Calls Try.prog 90 #[.pointer (some ⟨B, 0, none⟩), .pointer (some ⟨B', 0, none⟩)] w fun e w' => ∃ Bo go capo, e = .returned (.pointer (some ⟨Bo, 0, none⟩)) ∧ Tab w' w.heap.size Bo go capo d n r.1 r.2 ∧ Below w.heap.size w w' := by
 have HT := zA h
 have HT' := zA h'
 have HK := zA hk
 have HX := zA hx
 clear h h' hk hx
 have H := zA (show timesO k d vs us ws (List.replicate ws.length ⟨0, 1⟩) bad' = some r from hs)
 clear hs
 go_enter Try.func90, Try.ntmps90
 go_wp2_with (go_at_call 133; refine (like k d n ws HK.out h1 h2 base B g cap vs false _ HT.out).mono ?_; rintro e w1 ⟨Bo, go, capo, rfl, ht1, hb1⟩; have B1 := zA hb1; have hBo : w.heap.size ≤ Bo := ht1.hB; have hgo : w.heap.size ≤ go := ht1.hg; have hne : Bo ≠ go := ht1.ne; have hB := HT.out.ltB; have hB' := HT'.out.ltB; have hg := HT.out.lt; have hg' := HT'.out.lt; have x3 := (HT.out.below B1.out).cells.2.2.2; have y3 := (HT'.out.below B1.out).cells.2.2.2; have z3 := ht1.cells.2.2.2; have zf := ht1.frozen 3; have HTo := zA (ht1.mark bad'); have B2 := zA (show Below w.heap.size w (w1.setCell ⟨Bo, 3, none⟩ (.bool bad')) from below_set B1.out hBo); clear hb1 ht1)
 clear x3 y3 z3 zf B1
 generalize w1.setCell ⟨Bo, 3, none⟩ (.bool bad') = w2 at HTo B2 ⊢
 have x0 := (HT.out.below B2.out).cells.1
 have x1 := (HT.out.below B2.out).cells.2.1
 have HK1 : Aside0 (∀ W7 : World, Below w2.heap.size w2 W7 → W7.cell? ⟨B, 0, none⟩ = some (.int .i64 d) ∧ W7.cell? ⟨B, 1, none⟩ = some (.int .i64 n)) := ⟨fun W7 hb => ⟨pw_cell_below hb x0, pw_cell_below hb x1⟩⟩
 clear x0 x1
 refine wp_region_noPanic ?_
 refine wp_region_held_drew (S := (fun w' => w'.cell? ⟨B, 0, none⟩ = some (.int .i64 d) ∧ w'.cell? ⟨B, 1, none⟩ = some (.int .i64 n))) (by kernel_rfl) ?_ (fun hHeld => ?_)
 ·(try dsimp only)
  (exact HK1.out _ (below_drew (Below.refl _ _)))
 refine wpAnyH_take (i := 0) (v := ?v0) rfl (by kernel_rfl) (by kernel_rfl) (by kernel_rfl) (fun _ _ _ h => h) (Or.inl ⟨by rfl, ?hy0⟩) (by assumption) ?rest0
 case hy0 => (intro w hSw; (try dsimp only at hSw); go_simp; try (with_reducible rfl))
 (try simp only [Act.put, List.setIfInBounds_toArray, List.set])
 refine wpAnyH_take (i := 1) (v := ?v1) rfl (by kernel_rfl) (by kernel_rfl) (by kernel_rfl) (fun _ _ _ h => h) (Or.inl ⟨by rfl, ?hy1⟩) (by assumption) ?rest1
 case hy1 => (intro w hSw; (try dsimp only at hSw); go_simp; try (with_reducible rfl))
 (try simp only [Act.put, List.setIfInBounds_toArray, List.set])
 refine wpAnyH_take (i := 2) (v := ?v2) rfl (by kernel_rfl) (by kernel_rfl) (by kernel_rfl) (fun _ _ _ h => h) (Or.inl ⟨by rfl, ?hy2⟩) (by assumption) ?rest2
 case hy2 => (intro w hSw; (try dsimp only at hSw); go_simp; try (with_reducible rfl))
 (try simp only [Act.put, List.setIfInBounds_toArray, List.set])
 refine wpAnyH_take (i := 3) (v := ?v3) rfl (by kernel_rfl) (by kernel_rfl) (by kernel_rfl) (fun _ _ _ h => h) (Or.inl ⟨by rfl, ?hy3⟩) (by assumption) ?rest3
 case hy3 => (intro w hSw; (try dsimp only at hSw); go_simp; try (with_reducible rfl))
 (try simp only [Act.put, List.setIfInBounds_toArray, List.set])
 refine wpAnyH_take (i := 4) (v := ?v4) rfl (by kernel_rfl) (by kernel_rfl) (by kernel_rfl) (fun _ _ _ h => h) (Or.inl ⟨by rfl, ?hy4⟩) (by assumption) ?rest4
 case hy4 => (intro w hSw; (try dsimp only at hSw); go_simp; try (with_reducible rfl))
 (try simp only [Act.put, List.setIfInBounds_toArray, List.set])
 refine wpAnyH_take (i := 5) (v := ?v5) rfl (by kernel_rfl) (by kernel_rfl) (by kernel_rfl) (fun _ _ _ h => h) (Or.inl ⟨by rfl, ?hy5⟩) (by assumption) ?rest5
 case hy5 => (intro w hSw; (try dsimp only at hSw); go_simp; try (with_reducible rfl))
 (try simp only [Act.put, List.setIfInBounds_toArray, List.set])
 refine wpAnyH_take (i := 6) (v := ?v6) rfl (by kernel_rfl) (by kernel_rfl) (by kernel_rfl) (fun _ _ _ h => h) (Or.inl ⟨by rfl, ?hy6⟩) (by assumption) ?rest6
 case hy6 => (intro w hSw; (try dsimp only at hSw); go_simp; try (with_reducible rfl))
 (try simp only [Act.put, List.setIfInBounds_toArray, List.set])
 refine wpAnyH_take (i := 7) (v := ?v7) rfl (by kernel_rfl) (by kernel_rfl) (by kernel_rfl) (fun _ _ _ h => h) (Or.inl ⟨by rfl, ?hy7⟩) (by assumption) ?rest7
 case hy7 => (intro w hSw; (try dsimp only at hSw); go_simp; try (with_reducible rfl))
 (try simp only [Act.put, List.setIfInBounds_toArray, List.set])
 refine wpAnyH_take (i := 10) (v := ?v8) rfl (by kernel_rfl) (by kernel_rfl) (by kernel_rfl) (fun _ _ _ h => h) (Or.inl ⟨by rfl, ?hy8⟩) (by assumption) ?rest8
 case hy8 => (intro w hSw; (try dsimp only at hSw); go_simp; try (with_reducible rfl))
 (try simp only [Act.put, List.setIfInBounds_toArray, List.set])
 refine wpAnyH_ready (rs := [8]) (by kernel_rfl) (by simp) ?_
 refine AllReadyH.cons rfl (fun K hK => ?_) AllReadyH.nil
 go_simp
 (go_at_call 132; refine (impl_allWords.calls k d n ws _ HK.out).mono ?_; rintro e w3 ⟨v0, rfl, hv0, hb⟩; obtain ⟨gw, cw, rfl, hgw1, hgw2, hgw3⟩ := Kd.R_form hv0 (by omega))
 refine hK.out _ _ ?_ (fun hHeld => ?_)
 ·(try dsimp only)
  (exact HK1.out _ (below_step (below_drew (Below.refl _ _)) hb))
 clear hK K
 (try simp only [Act.put, List.setIfInBounds_toArray, List.set])
 refine wpAnyH_ready (rs := [9]) (by kernel_rfl) (by simp) ?_
 refine AllReadyH.cons rfl (fun K hK => ?_) AllReadyH.nil
 go_simp
 skip
 refine hK.out _ _ ?_ (fun hHeld => ?_)
 ·(try dsimp only)
  (exact HK1.out _ (below_step (below_drew (Below.refl _ _)) hb))
 clear hK K
 (try simp only [Act.put, List.setIfInBounds_toArray, List.set])
 refine wpAnyH_done (by kernel_rfl) ?_ _
 refine NoPanic.normal ?_
 have hsz := below_size B2.out
 go_wp2
 have HTo3 := zA ((HTo.out.below (below_drew (Below.refl _ _))).below hb)
 have WR3 := zA (row_okS (Kd.R_lower hv0 (base' := w.heap.size) (by show w.heap.size ≤ w2.heap.size; exact hsz)))
 have B3 := zA (below_step (below_drew B2.out) hb)
 have hgB : Bo ≠ gw := Nat.ne_of_lt (Nat.lt_of_lt_of_le (show Bo < w2.heap.size from HTo.out.ltB) hgw1)
 have hgg : go ≠ gw := Nat.ne_of_lt (Nat.lt_of_lt_of_le (show go < w2.heap.size from HTo.out.lt) hgw1)
 have hgw : w.heap.size ≤ gw := Nat.le_trans hsz hgw1
 clear hb hv0 hgw1 hgw2 hgw3 hsz HTo B2
 go_loopw [36] (fun s36 wr => ∃ (j : Nat) (os : List S27) (bo : Bool), j ≤ ws.length ∧ s36 = .int .i64 j ∧ Aside0 (timesO k d vs us (ws.drop j) os bo = some r) ∧ Aside0 (os.length = ws.length) ∧ Aside0 (Tab wr w.heap.size Bo go capo d n os bo) ∧ Aside0 (Kd.R Kd.string 9 wr w.heap.size (fun k => k = gw) (.slice (some ⟨gw, 0, none⟩) ws.length cw) ws) ∧ Aside0 (Below w.heap.size w wr)) (fun s36 _ => ws.length - (intOf s36).toNat)
 case atStart => exact ⟨0, _, _, Nat.zero_le _, rfl, H, ⟨by simp⟩, HTo3, WR3, B3⟩
 case round =>
  clear H HTo3 WR3 B3 HK1
  obtain ⟨j, os, bo, hj, rfl, H, HL, HTo, WR, BB⟩ := hrel
  by_cases hjt : j < ws.length
  ·have H := H.out
   rw [List.drop_eq_getElem_cons hjt] at H
   simp only [timesO] at H
   obtain ⟨⟨vs1, bad1⟩, AX, H⟩ := Option.bind_eq_some_iff.mp H
   have AX := zA AX
   have HN := zA H
   clear H
   obtain ⟨y0, _⟩ := Kd.R_celln ByteArray.empty WR.out (j : Int) (by omega) (by omega)
   rw [Int.toNat_natCast, show rdOf ByteArray.empty ws (j : Int) = ws[j] from by simp [rdOf, hjt]] at y0
   have p1 : (0 ≤ (j : Int)) = True := eq_true (by omega)
   have p2 : ((j : Int) < (ws.length : Int)) = True := eq_true (by omega)
   have p3 : (j < ws.length) = True := eq_true hjt
   have hws := HX.out _ (List.getElem_mem hjt)
   generalize ws[j] = x at y0 AX hws
   go_wp2
   clear y0 p1 p2 p3
   go_loopw [43] (fun s43 wr => ∃ (i : Nat) (os : List S27) (bo : Bool), i ≤ x.size + 1 ∧ s43 = .int .i64 i ∧ Aside0 (timesI k d x vs us (x.size + 1 - i) i os bo = some (vs1, bad1)) ∧ Aside0 (os.length = ws.length) ∧ Aside0 (Tab wr w.heap.size Bo go capo d n os bo) ∧ Aside0 (Kd.R Kd.string 9 wr w.heap.size (fun k => k = gw) (.slice (some ⟨gw, 0, none⟩) ws.length cw) ws) ∧ Aside0 (Below w.heap.size w wr)) (fun s43 _ => x.size + 1 - (intOf s43).toNat)
   case atStart => exact ⟨0, _, _, Nat.zero_le _, rfl, AX, HL, HTo, WR, BB⟩
   case round =>
    clear AX HL HTo WR BB
    obtain ⟨i, os, bo, hi, rfl, H, HL, HTo, WR, BB⟩ := hrel
    have hol := HL.out
    by_cases hit : i < x.size + 1
    ·have H := H.out
     obtain ⟨e', he'⟩ : ∃ e', x.size + 1 - i = e' + 1 := ⟨x.size + 1 - i - 1, by omega⟩
     rw [he'] at H
     simp only [timesI] at H
     rw [show e' = x.size + 1 - (i + 1) from by omega] at H
     obtain ⟨p, HP, H⟩ := Option.bind_eq_some_iff.mp H
     obtain ⟨q, HQ, H⟩ := Option.bind_eq_some_iff.mp H
     by_cases hpq : (0 ≤ p ∧ p < (vs.length : Int)) ∧ 0 ≤ q ∧ q < (us.length : Int)
     ·rw [if_pos hpq] at H
      obtain ⟨p, rfl⟩ := Int.eq_ofNat_of_zero_le hpq.1.1
      obtain ⟨q, rfl⟩ := Int.eq_ofNat_of_zero_le hpq.2.1
      have hp : p < vs.length := by omega
      have hq : q < us.length := by omega
      have HP := zA HP
      have HQ := zA HQ
      have HH := zA H
      clear H hpq
      have c1 : decide ((i : Int) < wrap64 ((x.size : Int) + 1)) = true := by rw [wrap_small x.size hws]; exact decide_eq_true (by omega)
      have c2 : ((i : Int) < wrap64 ((x.size : Int) + 1)) = True := eq_true (of_decide_eq_true c1)
      have s0 : (0 ≤ (i : Int)) = True := eq_true (by omega)
      have s1 : ((i : Int) ≤ (x.size : Int)) = True := eq_true (by omega)
      have s2 : (i ≤ x.size) = True := eq_true (by omega)
      have HT0 := zA (HT.out.below (below_drew BB.out))
      have HU0 := zA (HT'.out.below (below_drew BB.out))
      have HO0 := zA (HTo.out.below (below_drew (Below.refl _ _)))
      have WR0 := zA (Kd.R_below WR.out (below_drew (Below.refl _ _)))
      have BB0 := zA (below_drew BB.out)
      have hwz : w.heap.size ≤ wr.drew.heap.size := below_size BB0.out
      go_upto_region 9 with (fail)
      refine start_ (n := 14) (S := (fun _ => True)) (ds := []) #[false, false, false, false, false, false, false, false, false, false, false, false, false, false] (by kernel_rfl) rfl rfl trivial (fun hHeld => ?_)
      refine pure_ (i := 0) (N := some 46) (v := ?_) (a' := ?_) #[true, false, false, false, false, false, false, false, false, false, false, false, false, false] rfl rfl (by kernel_rfl) (fun _ _ _ h => h) (Or.inl ⟨by rfl, ?_⟩) ?_ ?_
      rotate_left
      ·intro w'
       go_simp
       with_reducible rfl
      rotate_left
      ·simp only [Act.put, List.setIfInBounds_toArray, List.set, i64_w, i32_w]
       rfl
      refine pure_ (i := 1) (N := some 47) (v := ?_) (a' := ?_) #[true, true, false, false, false, false, false, false, false, false, false, false, false, false] rfl rfl (by kernel_rfl) (fun _ _ _ h => h) (Or.inl ⟨by rfl, ?_⟩) ?_ ?_
      rotate_left
      ·intro w'
       go_simp
       with_reducible rfl
      rotate_left
      ·simp only [Act.put, List.setIfInBounds_toArray, List.set, i64_w, i32_w]
       rfl
      refine pure_ (i := 2) (N := some 48) (v := ?_) (a' := ?_) #[true, true, true, false, false, false, false, false, false, false, false, false, false, false] rfl rfl (by kernel_rfl) (fun _ _ _ h => h) (Or.inl ⟨by rfl, ?_⟩) ?_ ?_
      rotate_left
      ·intro w'
       go_simp
       with_reducible rfl
      rotate_left
      ·simp only [Act.put, List.setIfInBounds_toArray, List.set, i64_w, i32_w]
       rfl
      refine pure_ (i := 3) (N := some 49) (v := ?_) (a' := ?_) #[true, true, true, true, false, false, false, false, false, false, false, false, false, false] rfl rfl (by kernel_rfl) (fun _ _ _ h => h) (Or.inl ⟨by rfl, ?_⟩) ?_ ?_
      rotate_left
      ·intro w'
       go_simp
       with_reducible rfl
      rotate_left
      ·simp only [Act.put, List.setIfInBounds_toArray, List.set, i64_w, i32_w]
       rfl
      refine pure_ (i := 5) (N := some 51) (v := ?_) (a' := ?_) #[true, true, true, true, false, true, false, false, false, false, false, false, false, false] rfl rfl (by kernel_rfl) (fun _ _ _ h => h) (Or.inl ⟨by rfl, ?_⟩) ?_ ?_
      rotate_left
      ·intro w'
       go_simp
       with_reducible rfl
      rotate_left
      ·simp only [Act.put, List.setIfInBounds_toArray, List.set, i64_w, i32_w]
       rfl
      refine pure_ (i := 6) (N := some 52) (v := ?_) (a' := ?_) #[true, true, true, true, false, true, true, false, false, false, false, false, false, false] rfl rfl (by kernel_rfl) (fun _ _ _ h => h) (Or.inl ⟨by rfl, ?_⟩) ?_ ?_
      rotate_left
      ·intro w'
       go_simp
       with_reducible rfl
      rotate_left
      ·simp only [Act.put, List.setIfInBounds_toArray, List.set, i64_w, i32_w]
       rfl
      refine pure_ (i := 7) (N := some 53) (v := ?_) (a' := ?_) #[true, true, true, true, false, true, true, true, false, false, false, false, false, false] rfl rfl (by kernel_rfl) (fun _ _ _ h => h) (Or.inl ⟨by rfl, ?_⟩) ?_ ?_
      rotate_left
      ·intro w'
       go_simp
       with_reducible rfl
      rotate_left
      ·simp only [Act.put, List.setIfInBounds_toArray, List.set, i64_w, i32_w]
       rfl
      refine pure_ (i := 8) (N := some 54) (v := ?_) (a' := ?_) #[true, true, true, true, false, true, true, true, true, false, false, false, false, false] rfl rfl (by kernel_rfl) (fun _ _ _ h => h) (Or.inl ⟨by rfl, ?_⟩) ?_ ?_
      rotate_left
      ·intro w'
       go_simp
       with_reducible rfl
      rotate_left
      ·simp only [Act.put, List.setIfInBounds_toArray, List.set, i64_w, i32_w]
       rfl
      have HW := zA (Below.refl wr.drew.heap.size wr.drew)
      refine join_ (σ := Nat × Nat) 2 #[true, true, true, true, true, true, true, true, true, true, true, true, false, false] (fun s_ => [(50, .agg #[.int .i64 (rd_T27 vs (p : Int)).f0, .int .i64 (rd_T27 vs (p : Int)).f1]), (55, .agg #[.int .i64 (rd_T27 us (q : Int)).f0, .int .i64 (rd_T27 us (q : Int)).f1]), (9, .pointer (some ⟨s_.1, 0, none⟩)), (10, .pointer (some ⟨s_.2, 0, none⟩))]) (fun s_ w' => Below wr.drew.heap.size wr.drew w' ∧ s_.1 ≠ s_.2 ∧ wr.drew.heap.size ≤ s_.1 ∧ wr.drew.heap.size ≤ s_.2 ∧ w'.heap[s_.1]? = some (.cells #[.int .i64 0, .int .i64 0] 27 (0, 0)) ∧ w'.heap[s_.2]? = some (.cells #[.int .i64 0, .int .i64 0] 27 (0, 0))) ?_ ?_
      rotate_left
      ·intro hCont
       refine three_ (i := 4) (j := 10) (k := 11) (Ni := some 50) (Nj := some 9) (Nk := some 10) #[true, true, true, true, true, true, true, true, true, false, false, false, false, false] #[true, true, true, true, false, true, true, true, true, false, true, false, false, false] #[true, true, true, true, false, true, true, true, true, false, false, true, false, false] rfl rfl rfl rfl rfl rfl (by kernel_rfl) (by decide) (by decide) (by decide) (fun K hK => ?_) (fun K hK => ?_) (fun K hK => ?_)
       ·skip
        refine goes_ Try.func137 (by kernel_rfl) rfl #[.pointer (some ⟨B, 0, none⟩), .string (x.extract 0 i)] (by rfl) rfl rfl (by (try simp only [List.map_toArray, List.map_cons, List.map_nil]); rfl) ?_; (with_reducible refine (at_ k base B g cap d n vs false (x.extract 0 i) p HP.out hp _ (HT0.out.below HW.out)).mono ?_); rintro e w5 ⟨rfl, hb⟩; refine ⟨_, rfl, ?_⟩
        replace HW := zA (below_step HW.out hb)
        clear hb
        refine hK.out _ _ trivial (fun hHeld => ?_)
        clear hK K
        refine norm_ (a' := ?_) ?_ ?_
        rotate_left
        ·simp only [Act.put, List.setIfInBounds_toArray, List.set, i64_w, i32_w]
         rfl
        refine three_ (i := 9) (j := 10) (k := 11) (Ni := some 55) (Nj := some 9) (Nk := some 10) #[true, true, true, true, true, true, true, true, true, true, false, false, false, false] #[true, true, true, true, true, true, true, true, true, false, true, false, false, false] #[true, true, true, true, true, true, true, true, true, false, false, true, false, false] rfl rfl rfl rfl rfl rfl (by kernel_rfl) (by decide) (by decide) (by decide) (fun K hK => ?_) (fun K hK => ?_) (fun K hK => ?_)
        ·skip
         refine goes_ Try.func137 (by kernel_rfl) rfl #[.pointer (some ⟨B', 0, none⟩), .string (x.extract i x.size)] (by rfl) rfl rfl (by (try simp only [List.map_toArray, List.map_cons, List.map_nil]); rfl) ?_; (with_reducible refine (at_ k base' B' g' cap' d n us bad' (x.extract i x.size) q HQ.out hq _ (HU0.out.below HW.out)).mono ?_); rintro e w5 ⟨rfl, hb⟩; refine ⟨_, rfl, ?_⟩
         replace HW := zA (below_step HW.out hb)
         clear hb
         refine hK.out _ _ trivial (fun hHeld => ?_)
         clear hK K
         refine norm_ (a' := ?_) ?_ ?_
         rotate_left
         ·simp only [Act.put, List.setIfInBounds_toArray, List.set, i64_w, i32_w]
          rfl
         refine two_ (i := 10) (j := 11) (Ni := some 9) (Nj := some 10) #[true, true, true, true, true, true, true, true, true, true, true, false, false, false] #[true, true, true, true, true, true, true, true, true, true, false, true, false, false] rfl rfl rfl rfl (by kernel_rfl) (by decide) (by decide) (fun K hK => ?_) (fun K hK => ?_)
         ·skip
          refine box_step ?hg (N := 9) ?hd (cs := #[.int .i64 0, .int .i64 0]) (t := 27) ?hr ?_; (case hd => rfl); (case hg => rfl); (case hr => (go_simp; done))
          intro g10 hg wk hbox hb
          have HG10 := zA (show wr.drew.heap.size ≤ g10 by rw [hg]; exact below_size HW.out)
          have HX10 := zA hbox
          clear hg hbox
          replace HW := zA (below_step HW.out hb)
          clear hb
          refine hK.out _ _ trivial (fun hHeld => ?_)
          clear hK K
          refine norm_ (a' := ?_) ?_ ?_
          rotate_left
          ·show Act.put _ (some 9) _ = _
           simp only [Act.put, List.setIfInBounds_toArray, List.set, i64_w, i32_w]
           rfl
          refine one_ (i := 11) (N := some 10) #[true, true, true, true, true, true, true, true, true, true, true, true, false, false] rfl rfl (by kernel_rfl) (by decide) (fun K hK => ?_)
          refine box_step ?hg (N := 10) ?hd (cs := #[.int .i64 0, .int .i64 0]) (t := 27) ?hr ?_; (case hd => rfl); (case hg => rfl); (case hr => (go_simp; done))
          intro g11 hg wk hbox hb
          have HG11 := zA (show wr.drew.heap.size ≤ g11 by rw [hg]; exact below_size HW.out)
          have hN : g10 ≠ g11 := Nat.ne_of_lt (show g10 < g11 by rw [hg]; exact blk_lt HX10.out)
          replace HX10 := zA ((hb.block g10 (blk_lt HX10.out)).trans HX10.out)
          have HX11 := zA hbox
          clear hg hbox
          replace HW := zA (below_step HW.out hb)
          clear hb
          refine hK.out _ _ trivial (fun hHeld => ?_)
          clear hK K
          refine norm_ (a' := ?_) ?_ ?_
          rotate_left
          ·show Act.put _ (some 10) _ = _
           simp only [Act.put, List.setIfInBounds_toArray, List.set, i64_w, i32_w]
           rfl
          exact norm_ (by simp only [putAll, Act.put, List.setIfInBounds_toArray, List.set]) (hCont (g10, g11) _ ⟨HW.out, hN, HG10.out, HG11.out, HX10.out, HX11.out⟩)
         ·skip
          refine box_step ?hg (N := 10) ?hd (cs := #[.int .i64 0, .int .i64 0]) (t := 27) ?hr ?_; (case hd => rfl); (case hg => rfl); (case hr => (go_simp; done))
          intro g11 hg wk hbox hb
          have HG11 := zA (show wr.drew.heap.size ≤ g11 by rw [hg]; exact below_size HW.out)
          have HX11 := zA hbox
          clear hg hbox
          replace HW := zA (below_step HW.out hb)
          clear hb
          refine hK.out _ _ trivial (fun hHeld => ?_)
          clear hK K
          refine norm_ (a' := ?_) ?_ ?_
          rotate_left
          ·show Act.put _ (some 10) _ = _
           simp only [Act.put, List.setIfInBounds_toArray, List.set, i64_w, i32_w]
           rfl
          refine one_ (i := 10) (N := some 9) #[true, true, true, true, true, true, true, true, true, true, true, true, false, false] rfl rfl (by kernel_rfl) (by decide) (fun K hK => ?_)
          refine box_step ?hg (N := 9) ?hd (cs := #[.int .i64 0, .int .i64 0]) (t := 27) ?hr ?_; (case hd => rfl); (case hg => rfl); (case hr => (go_simp; done))
          intro g10 hg wk hbox hb
          have HG10 := zA (show wr.drew.heap.size ≤ g10 by rw [hg]; exact below_size HW.out)
          have hN : g10 ≠ g11 := Nat.ne_of_gt (show g11 < g10 by rw [hg]; exact blk_lt HX11.out)
          replace HX11 := zA ((hb.block g11 (blk_lt HX11.out)).trans HX11.out)
          have HX10 := zA hbox
          clear hg hbox
          replace HW := zA (below_step HW.out hb)
          clear hb
          refine hK.out _ _ trivial (fun hHeld => ?_)
          clear hK K
          refine norm_ (a' := ?_) ?_ ?_
          rotate_left
          ·show Act.put _ (some 9) _ = _
           simp only [Act.put, List.setIfInBounds_toArray, List.set, i64_w, i32_w]
           rfl
          exact norm_ (by simp only [putAll, Act.put, List.setIfInBounds_toArray, List.set]) (hCont (g10, g11) _ ⟨HW.out, hN, HG10.out, HG11.out, HX10.out, HX11.out⟩)
        ·skip
         refine box_step ?hg (N := 9) ?hd (cs := #[.int .i64 0, .int .i64 0]) (t := 27) ?hr ?_; (case hd => rfl); (case hg => rfl); (case hr => (go_simp; done))
         intro g10 hg wk hbox hb
         have HG10 := zA (show wr.drew.heap.size ≤ g10 by rw [hg]; exact below_size HW.out)
         have HX10 := zA hbox
         clear hg hbox
         replace HW := zA (below_step HW.out hb)
         clear hb
         refine hK.out _ _ trivial (fun hHeld => ?_)
         clear hK K
         refine norm_ (a' := ?_) ?_ ?_
         rotate_left
         ·show Act.put _ (some 9) _ = _
          simp only [Act.put, List.setIfInBounds_toArray, List.set, i64_w, i32_w]
          rfl
         refine two_ (i := 9) (j := 11) (Ni := some 55) (Nj := some 10) #[true, true, true, true, true, true, true, true, true, true, true, false, false, false] #[true, true, true, true, true, true, true, true, true, false, true, true, false, false] rfl rfl rfl rfl (by kernel_rfl) (by decide) (by decide) (fun K hK => ?_) (fun K hK => ?_)
         ·skip
          refine goes_ Try.func137 (by kernel_rfl) rfl #[.pointer (some ⟨B', 0, none⟩), .string (x.extract i x.size)] (by rfl) rfl rfl (by (try simp only [List.map_toArray, List.map_cons, List.map_nil]); rfl) ?_; (with_reducible refine (at_ k base' B' g' cap' d n us bad' (x.extract i x.size) q HQ.out hq _ (HU0.out.below HW.out)).mono ?_); rintro e w5 ⟨rfl, hb⟩; refine ⟨_, rfl, ?_⟩
          replace HX10 := zA ((hb.block g10 (blk_lt HX10.out)).trans HX10.out)
          replace HW := zA (below_step HW.out hb)
          clear hb
          refine hK.out _ _ trivial (fun hHeld => ?_)
          clear hK K
          refine norm_ (a' := ?_) ?_ ?_
          rotate_left
          ·simp only [Act.put, List.setIfInBounds_toArray, List.set, i64_w, i32_w]
           rfl
          refine one_ (i := 11) (N := some 10) #[true, true, true, true, true, true, true, true, true, true, true, true, false, false] rfl rfl (by kernel_rfl) (by decide) (fun K hK => ?_)
          refine box_step ?hg (N := 10) ?hd (cs := #[.int .i64 0, .int .i64 0]) (t := 27) ?hr ?_; (case hd => rfl); (case hg => rfl); (case hr => (go_simp; done))
          intro g11 hg wk hbox hb
          have HG11 := zA (show wr.drew.heap.size ≤ g11 by rw [hg]; exact below_size HW.out)
          have hN : g10 ≠ g11 := Nat.ne_of_lt (show g10 < g11 by rw [hg]; exact blk_lt HX10.out)
          replace HX10 := zA ((hb.block g10 (blk_lt HX10.out)).trans HX10.out)
          have HX11 := zA hbox
          clear hg hbox
          replace HW := zA (below_step HW.out hb)
          clear hb
          refine hK.out _ _ trivial (fun hHeld => ?_)
          clear hK K
          refine norm_ (a' := ?_) ?_ ?_
          rotate_left
          ·show Act.put _ (some 10) _ = _
           simp only [Act.put, List.setIfInBounds_toArray, List.set, i64_w, i32_w]
           rfl
          exact norm_ (by simp only [putAll, Act.put, List.setIfInBounds_toArray, List.set]) (hCont (g10, g11) _ ⟨HW.out, hN, HG10.out, HG11.out, HX10.out, HX11.out⟩)
         ·skip
          refine box_step ?hg (N := 10) ?hd (cs := #[.int .i64 0, .int .i64 0]) (t := 27) ?hr ?_; (case hd => rfl); (case hg => rfl); (case hr => (go_simp; done))
          intro g11 hg wk hbox hb
          have HG11 := zA (show wr.drew.heap.size ≤ g11 by rw [hg]; exact below_size HW.out)
          have hN : g10 ≠ g11 := Nat.ne_of_lt (show g10 < g11 by rw [hg]; exact blk_lt HX10.out)
          replace HX10 := zA ((hb.block g10 (blk_lt HX10.out)).trans HX10.out)
          have HX11 := zA hbox
          clear hg hbox
          replace HW := zA (below_step HW.out hb)
          clear hb
          refine hK.out _ _ trivial (fun hHeld => ?_)
          clear hK K
          refine norm_ (a' := ?_) ?_ ?_
          rotate_left
          ·show Act.put _ (some 10) _ = _
           simp only [Act.put, List.setIfInBounds_toArray, List.set, i64_w, i32_w]
           rfl
          refine one_ (i := 9) (N := some 55) #[true, true, true, true, true, true, true, true, true, true, true, true, false, false] rfl rfl (by kernel_rfl) (by decide) (fun K hK => ?_)
          refine goes_ Try.func137 (by kernel_rfl) rfl #[.pointer (some ⟨B', 0, none⟩), .string (x.extract i x.size)] (by rfl) rfl rfl (by (try simp only [List.map_toArray, List.map_cons, List.map_nil]); rfl) ?_; (with_reducible refine (at_ k base' B' g' cap' d n us bad' (x.extract i x.size) q HQ.out hq _ (HU0.out.below HW.out)).mono ?_); rintro e w5 ⟨rfl, hb⟩; refine ⟨_, rfl, ?_⟩
          replace HX10 := zA ((hb.block g10 (blk_lt HX10.out)).trans HX10.out)
          replace HX11 := zA ((hb.block g11 (blk_lt HX11.out)).trans HX11.out)
          replace HW := zA (below_step HW.out hb)
          clear hb
          refine hK.out _ _ trivial (fun hHeld => ?_)
          clear hK K
          refine norm_ (a' := ?_) ?_ ?_
          rotate_left
          ·simp only [Act.put, List.setIfInBounds_toArray, List.set, i64_w, i32_w]
           rfl
          exact norm_ (by simp only [putAll, Act.put, List.setIfInBounds_toArray, List.set]) (hCont (g10, g11) _ ⟨HW.out, hN, HG10.out, HG11.out, HX10.out, HX11.out⟩)
        ·skip
         refine box_step ?hg (N := 10) ?hd (cs := #[.int .i64 0, .int .i64 0]) (t := 27) ?hr ?_; (case hd => rfl); (case hg => rfl); (case hr => (go_simp; done))
         intro g11 hg wk hbox hb
         have HG11 := zA (show wr.drew.heap.size ≤ g11 by rw [hg]; exact below_size HW.out)
         have HX11 := zA hbox
         clear hg hbox
         replace HW := zA (below_step HW.out hb)
         clear hb
         refine hK.out _ _ trivial (fun hHeld => ?_)
         clear hK K
         refine norm_ (a' := ?_) ?_ ?_
         rotate_left
         ·show Act.put _ (some 10) _ = _
          simp only [Act.put, List.setIfInBounds_toArray, List.set, i64_w, i32_w]
          rfl
         refine two_ (i := 9) (j := 10) (Ni := some 55) (Nj := some 9) #[true, true, true, true, true, true, true, true, true, true, false, true, false, false] #[true, true, true, true, true, true, true, true, true, false, true, true, false, false] rfl rfl rfl rfl (by kernel_rfl) (by decide) (by decide) (fun K hK => ?_) (fun K hK => ?_)
         ·skip
          refine goes_ Try.func137 (by kernel_rfl) rfl #[.pointer (some ⟨B', 0, none⟩), .string (x.extract i x.size)] (by rfl) rfl rfl (by (try simp only [List.map_toArray, List.map_cons, List.map_nil]); rfl) ?_; (with_reducible refine (at_ k base' B' g' cap' d n us bad' (x.extract i x.size) q HQ.out hq _ (HU0.out.below HW.out)).mono ?_); rintro e w5 ⟨rfl, hb⟩; refine ⟨_, rfl, ?_⟩
          replace HX11 := zA ((hb.block g11 (blk_lt HX11.out)).trans HX11.out)
          replace HW := zA (below_step HW.out hb)
          clear hb
          refine hK.out _ _ trivial (fun hHeld => ?_)
          clear hK K
          refine norm_ (a' := ?_) ?_ ?_
          rotate_left
          ·simp only [Act.put, List.setIfInBounds_toArray, List.set, i64_w, i32_w]
           rfl
          refine one_ (i := 10) (N := some 9) #[true, true, true, true, true, true, true, true, true, true, true, true, false, false] rfl rfl (by kernel_rfl) (by decide) (fun K hK => ?_)
          refine box_step ?hg (N := 9) ?hd (cs := #[.int .i64 0, .int .i64 0]) (t := 27) ?hr ?_; (case hd => rfl); (case hg => rfl); (case hr => (go_simp; done))
          intro g10 hg wk hbox hb
          have HG10 := zA (show wr.drew.heap.size ≤ g10 by rw [hg]; exact below_size HW.out)
          have hN : g10 ≠ g11 := Nat.ne_of_gt (show g11 < g10 by rw [hg]; exact blk_lt HX11.out)
          replace HX11 := zA ((hb.block g11 (blk_lt HX11.out)).trans HX11.out)
          have HX10 := zA hbox
          clear hg hbox
          replace HW := zA (below_step HW.out hb)
          clear hb
          refine hK.out _ _ trivial (fun hHeld => ?_)
          clear hK K
          refine norm_ (a' := ?_) ?_ ?_
          rotate_left
          ·show Act.put _ (some 9) _ = _
           simp only [Act.put, List.setIfInBounds_toArray, List.set, i64_w, i32_w]
           rfl
          exact norm_ (by simp only [putAll, Act.put, List.setIfInBounds_toArray, List.set]) (hCont (g10, g11) _ ⟨HW.out, hN, HG10.out, HG11.out, HX10.out, HX11.out⟩)
         ·skip
          refine box_step ?hg (N := 9) ?hd (cs := #[.int .i64 0, .int .i64 0]) (t := 27) ?hr ?_; (case hd => rfl); (case hg => rfl); (case hr => (go_simp; done))
          intro g10 hg wk hbox hb
          have HG10 := zA (show wr.drew.heap.size ≤ g10 by rw [hg]; exact below_size HW.out)
          have hN : g10 ≠ g11 := Nat.ne_of_gt (show g11 < g10 by rw [hg]; exact blk_lt HX11.out)
          replace HX11 := zA ((hb.block g11 (blk_lt HX11.out)).trans HX11.out)
          have HX10 := zA hbox
          clear hg hbox
          replace HW := zA (below_step HW.out hb)
          clear hb
          refine hK.out _ _ trivial (fun hHeld => ?_)
          clear hK K
          refine norm_ (a' := ?_) ?_ ?_
          rotate_left
          ·show Act.put _ (some 9) _ = _
           simp only [Act.put, List.setIfInBounds_toArray, List.set, i64_w, i32_w]
           rfl
          refine one_ (i := 9) (N := some 55) #[true, true, true, true, true, true, true, true, true, true, true, true, false, false] rfl rfl (by kernel_rfl) (by decide) (fun K hK => ?_)
          refine goes_ Try.func137 (by kernel_rfl) rfl #[.pointer (some ⟨B', 0, none⟩), .string (x.extract i x.size)] (by rfl) rfl rfl (by (try simp only [List.map_toArray, List.map_cons, List.map_nil]); rfl) ?_; (with_reducible refine (at_ k base' B' g' cap' d n us bad' (x.extract i x.size) q HQ.out hq _ (HU0.out.below HW.out)).mono ?_); rintro e w5 ⟨rfl, hb⟩; refine ⟨_, rfl, ?_⟩
          replace HX10 := zA ((hb.block g10 (blk_lt HX10.out)).trans HX10.out)
          replace HX11 := zA ((hb.block g11 (blk_lt HX11.out)).trans HX11.out)
          replace HW := zA (below_step HW.out hb)
          clear hb
          refine hK.out _ _ trivial (fun hHeld => ?_)
          clear hK K
          refine norm_ (a' := ?_) ?_ ?_
          rotate_left
          ·simp only [Act.put, List.setIfInBounds_toArray, List.set, i64_w, i32_w]
           rfl
          exact norm_ (by simp only [putAll, Act.put, List.setIfInBounds_toArray, List.set]) (hCont (g10, g11) _ ⟨HW.out, hN, HG10.out, HG11.out, HX10.out, HX11.out⟩)
       ·skip
        refine box_step ?hg (N := 9) ?hd (cs := #[.int .i64 0, .int .i64 0]) (t := 27) ?hr ?_; (case hd => rfl); (case hg => rfl); (case hr => (go_simp; done))
        intro g10 hg wk hbox hb
        have HG10 := zA (show wr.drew.heap.size ≤ g10 by rw [hg]; exact below_size HW.out)
        have HX10 := zA hbox
        clear hg hbox
        replace HW := zA (below_step HW.out hb)
        clear hb
        refine hK.out _ _ trivial (fun hHeld => ?_)
        clear hK K
        refine norm_ (a' := ?_) ?_ ?_
        rotate_left
        ·show Act.put _ (some 9) _ = _
         simp only [Act.put, List.setIfInBounds_toArray, List.set, i64_w, i32_w]
         rfl
        refine two_ (i := 4) (j := 11) (Ni := some 50) (Nj := some 10) #[true, true, true, true, true, true, true, true, true, false, true, false, false, false] #[true, true, true, true, false, true, true, true, true, false, true, true, false, false] rfl rfl rfl rfl (by kernel_rfl) (by decide) (by decide) (fun K hK => ?_) (fun K hK => ?_)
        ·skip
         refine goes_ Try.func137 (by kernel_rfl) rfl #[.pointer (some ⟨B, 0, none⟩), .string (x.extract 0 i)] (by rfl) rfl rfl (by (try simp only [List.map_toArray, List.map_cons, List.map_nil]); rfl) ?_; (with_reducible refine (at_ k base B g cap d n vs false (x.extract 0 i) p HP.out hp _ (HT0.out.below HW.out)).mono ?_); rintro e w5 ⟨rfl, hb⟩; refine ⟨_, rfl, ?_⟩
         replace HX10 := zA ((hb.block g10 (blk_lt HX10.out)).trans HX10.out)
         replace HW := zA (below_step HW.out hb)
         clear hb
         refine hK.out _ _ trivial (fun hHeld => ?_)
         clear hK K
         refine norm_ (a' := ?_) ?_ ?_
         rotate_left
         ·simp only [Act.put, List.setIfInBounds_toArray, List.set, i64_w, i32_w]
          rfl
         refine two_ (i := 9) (j := 11) (Ni := some 55) (Nj := some 10) #[true, true, true, true, true, true, true, true, true, true, true, false, false, false] #[true, true, true, true, true, true, true, true, true, false, true, true, false, false] rfl rfl rfl rfl (by kernel_rfl) (by decide) (by decide) (fun K hK => ?_) (fun K hK => ?_)
         ·skip
          refine goes_ Try.func137 (by kernel_rfl) rfl #[.pointer (some ⟨B', 0, none⟩), .string (x.extract i x.size)] (by rfl) rfl rfl (by (try simp only [List.map_toArray, List.map_cons, List.map_nil]); rfl) ?_; (with_reducible refine (at_ k base' B' g' cap' d n us bad' (x.extract i x.size) q HQ.out hq _ (HU0.out.below HW.out)).mono ?_); rintro e w5 ⟨rfl, hb⟩; refine ⟨_, rfl, ?_⟩
          replace HX10 := zA ((hb.block g10 (blk_lt HX10.out)).trans HX10.out)
          replace HW := zA (below_step HW.out hb)
          clear hb
          refine hK.out _ _ trivial (fun hHeld => ?_)
          clear hK K
          refine norm_ (a' := ?_) ?_ ?_
          rotate_left
          ·simp only [Act.put, List.setIfInBounds_toArray, List.set, i64_w, i32_w]
           rfl
          refine one_ (i := 11) (N := some 10) #[true, true, true, true, true, true, true, true, true, true, true, true, false, false] rfl rfl (by kernel_rfl) (by decide) (fun K hK => ?_)
          refine box_step ?hg (N := 10) ?hd (cs := #[.int .i64 0, .int .i64 0]) (t := 27) ?hr ?_; (case hd => rfl); (case hg => rfl); (case hr => (go_simp; done))
          intro g11 hg wk hbox hb
          have HG11 := zA (show wr.drew.heap.size ≤ g11 by rw [hg]; exact below_size HW.out)
          have hN : g10 ≠ g11 := Nat.ne_of_lt (show g10 < g11 by rw [hg]; exact blk_lt HX10.out)
          replace HX10 := zA ((hb.block g10 (blk_lt HX10.out)).trans HX10.out)
          have HX11 := zA hbox
          clear hg hbox
          replace HW := zA (below_step HW.out hb)
          clear hb
          refine hK.out _ _ trivial (fun hHeld => ?_)
          clear hK K
          refine norm_ (a' := ?_) ?_ ?_
          rotate_left
          ·show Act.put _ (some 10) _ = _
           simp only [Act.put, List.setIfInBounds_toArray, List.set, i64_w, i32_w]
           rfl
          exact norm_ (by simp only [putAll, Act.put, List.setIfInBounds_toArray, List.set]) (hCont (g10, g11) _ ⟨HW.out, hN, HG10.out, HG11.out, HX10.out, HX11.out⟩)
         ·skip
          refine box_step ?hg (N := 10) ?hd (cs := #[.int .i64 0, .int .i64 0]) (t := 27) ?hr ?_; (case hd => rfl); (case hg => rfl); (case hr => (go_simp; done))
          intro g11 hg wk hbox hb
          have HG11 := zA (show wr.drew.heap.size ≤ g11 by rw [hg]; exact below_size HW.out)
          have hN : g10 ≠ g11 := Nat.ne_of_lt (show g10 < g11 by rw [hg]; exact blk_lt HX10.out)
          replace HX10 := zA ((hb.block g10 (blk_lt HX10.out)).trans HX10.out)
          have HX11 := zA hbox
          clear hg hbox
          replace HW := zA (below_step HW.out hb)
          clear hb
          refine hK.out _ _ trivial (fun hHeld => ?_)
          clear hK K
          refine norm_ (a' := ?_) ?_ ?_
          rotate_left
          ·show Act.put _ (some 10) _ = _
           simp only [Act.put, List.setIfInBounds_toArray, List.set, i64_w, i32_w]
           rfl
          refine one_ (i := 9) (N := some 55) #[true, true, true, true, true, true, true, true, true, true, true, true, false, false] rfl rfl (by kernel_rfl) (by decide) (fun K hK => ?_)
          refine goes_ Try.func137 (by kernel_rfl) rfl #[.pointer (some ⟨B', 0, none⟩), .string (x.extract i x.size)] (by rfl) rfl rfl (by (try simp only [List.map_toArray, List.map_cons, List.map_nil]); rfl) ?_; (with_reducible refine (at_ k base' B' g' cap' d n us bad' (x.extract i x.size) q HQ.out hq _ (HU0.out.below HW.out)).mono ?_); rintro e w5 ⟨rfl, hb⟩; refine ⟨_, rfl, ?_⟩
          replace HX10 := zA ((hb.block g10 (blk_lt HX10.out)).trans HX10.out)
          replace HX11 := zA ((hb.block g11 (blk_lt HX11.out)).trans HX11.out)
          replace HW := zA (below_step HW.out hb)
          clear hb
          refine hK.out _ _ trivial (fun hHeld => ?_)
          clear hK K
          refine norm_ (a' := ?_) ?_ ?_
          rotate_left
          ·simp only [Act.put, List.setIfInBounds_toArray, List.set, i64_w, i32_w]
           rfl
          exact norm_ (by simp only [putAll, Act.put, List.setIfInBounds_toArray, List.set]) (hCont (g10, g11) _ ⟨HW.out, hN, HG10.out, HG11.out, HX10.out, HX11.out⟩)
        ·skip
         refine box_step ?hg (N := 10) ?hd (cs := #[.int .i64 0, .int .i64 0]) (t := 27) ?hr ?_; (case hd => rfl); (case hg => rfl); (case hr => (go_simp; done))
         intro g11 hg wk hbox hb
         have HG11 := zA (show wr.drew.heap.size ≤ g11 by rw [hg]; exact below_size HW.out)
         have hN : g10 ≠ g11 := Nat.ne_of_lt (show g10 < g11 by rw [hg]; exact blk_lt HX10.out)
         replace HX10 := zA ((hb.block g10 (blk_lt HX10.out)).trans HX10.out)
         have HX11 := zA hbox
         clear hg hbox
         replace HW := zA (below_step HW.out hb)
         clear hb
         refine hK.out _ _ trivial (fun hHeld => ?_)
         clear hK K
         refine norm_ (a' := ?_) ?_ ?_
         rotate_left
         ·show Act.put _ (some 10) _ = _
          simp only [Act.put, List.setIfInBounds_toArray, List.set, i64_w, i32_w]
          rfl
         refine one_ (i := 4) (N := some 50) #[true, true, true, true, true, true, true, true, true, false, true, true, false, false] rfl rfl (by kernel_rfl) (by decide) (fun K hK => ?_)
         refine goes_ Try.func137 (by kernel_rfl) rfl #[.pointer (some ⟨B, 0, none⟩), .string (x.extract 0 i)] (by rfl) rfl rfl (by (try simp only [List.map_toArray, List.map_cons, List.map_nil]); rfl) ?_; (with_reducible refine (at_ k base B g cap d n vs false (x.extract 0 i) p HP.out hp _ (HT0.out.below HW.out)).mono ?_); rintro e w5 ⟨rfl, hb⟩; refine ⟨_, rfl, ?_⟩
         replace HX10 := zA ((hb.block g10 (blk_lt HX10.out)).trans HX10.out)
         replace HX11 := zA ((hb.block g11 (blk_lt HX11.out)).trans HX11.out)
         replace HW := zA (below_step HW.out hb)
         clear hb
         refine hK.out _ _ trivial (fun hHeld => ?_)
         clear hK K
         refine norm_ (a' := ?_) ?_ ?_
         rotate_left
         ·simp only [Act.put, List.setIfInBounds_toArray, List.set, i64_w, i32_w]
          rfl
         refine one_ (i := 9) (N := some 55) #[true, true, true, true, true, true, true, true, true, true, true, true, false, false] rfl rfl (by kernel_rfl) (by decide) (fun K hK => ?_)
         refine goes_ Try.func137 (by kernel_rfl) rfl #[.pointer (some ⟨B', 0, none⟩), .string (x.extract i x.size)] (by rfl) rfl rfl (by (try simp only [List.map_toArray, List.map_cons, List.map_nil]); rfl) ?_; (with_reducible refine (at_ k base' B' g' cap' d n us bad' (x.extract i x.size) q HQ.out hq _ (HU0.out.below HW.out)).mono ?_); rintro e w5 ⟨rfl, hb⟩; refine ⟨_, rfl, ?_⟩
         replace HX10 := zA ((hb.block g10 (blk_lt HX10.out)).trans HX10.out)
         replace HX11 := zA ((hb.block g11 (blk_lt HX11.out)).trans HX11.out)
         replace HW := zA (below_step HW.out hb)
         clear hb
         refine hK.out _ _ trivial (fun hHeld => ?_)
         clear hK K
         refine norm_ (a' := ?_) ?_ ?_
         rotate_left
         ·simp only [Act.put, List.setIfInBounds_toArray, List.set, i64_w, i32_w]
          rfl
         exact norm_ (by simp only [putAll, Act.put, List.setIfInBounds_toArray, List.set]) (hCont (g10, g11) _ ⟨HW.out, hN, HG10.out, HG11.out, HX10.out, HX11.out⟩)
       ·skip
        refine box_step ?hg (N := 10) ?hd (cs := #[.int .i64 0, .int .i64 0]) (t := 27) ?hr ?_; (case hd => rfl); (case hg => rfl); (case hr => (go_simp; done))
        intro g11 hg wk hbox hb
        have HG11 := zA (show wr.drew.heap.size ≤ g11 by rw [hg]; exact below_size HW.out)
        have HX11 := zA hbox
        clear hg hbox
        replace HW := zA (below_step HW.out hb)
        clear hb
        refine hK.out _ _ trivial (fun hHeld => ?_)
        clear hK K
        refine norm_ (a' := ?_) ?_ ?_
        rotate_left
        ·show Act.put _ (some 10) _ = _
         simp only [Act.put, List.setIfInBounds_toArray, List.set, i64_w, i32_w]
         rfl
        refine two_ (i := 4) (j := 10) (Ni := some 50) (Nj := some 9) #[true, true, true, true, true, true, true, true, true, false, false, true, false, false] #[true, true, true, true, false, true, true, true, true, false, true, true, false, false] rfl rfl rfl rfl (by kernel_rfl) (by decide) (by decide) (fun K hK => ?_) (fun K hK => ?_)
        ·skip
         refine goes_ Try.func137 (by kernel_rfl) rfl #[.pointer (some ⟨B, 0, none⟩), .string (x.extract 0 i)] (by rfl) rfl rfl (by (try simp only [List.map_toArray, List.map_cons, List.map_nil]); rfl) ?_; (with_reducible refine (at_ k base B g cap d n vs false (x.extract 0 i) p HP.out hp _ (HT0.out.below HW.out)).mono ?_); rintro e w5 ⟨rfl, hb⟩; refine ⟨_, rfl, ?_⟩
         replace HX11 := zA ((hb.block g11 (blk_lt HX11.out)).trans HX11.out)
         replace HW := zA (below_step HW.out hb)
         clear hb
         refine hK.out _ _ trivial (fun hHeld => ?_)
         clear hK K
         refine norm_ (a' := ?_) ?_ ?_
         rotate_left
         ·simp only [Act.put, List.setIfInBounds_toArray, List.set, i64_w, i32_w]
          rfl
         refine two_ (i := 9) (j := 10) (Ni := some 55) (Nj := some 9) #[true, true, true, true, true, true, true, true, true, true, false, true, false, false] #[true, true, true, true, true, true, true, true, true, false, true, true, false, false] rfl rfl rfl rfl (by kernel_rfl) (by decide) (by decide) (fun K hK => ?_) (fun K hK => ?_)
         ·skip
          refine goes_ Try.func137 (by kernel_rfl) rfl #[.pointer (some ⟨B', 0, none⟩), .string (x.extract i x.size)] (by rfl) rfl rfl (by (try simp only [List.map_toArray, List.map_cons, List.map_nil]); rfl) ?_; (with_reducible refine (at_ k base' B' g' cap' d n us bad' (x.extract i x.size) q HQ.out hq _ (HU0.out.below HW.out)).mono ?_); rintro e w5 ⟨rfl, hb⟩; refine ⟨_, rfl, ?_⟩
          replace HX11 := zA ((hb.block g11 (blk_lt HX11.out)).trans HX11.out)
          replace HW := zA (below_step HW.out hb)
          clear hb
          refine hK.out _ _ trivial (fun hHeld => ?_)
          clear hK K
          refine norm_ (a' := ?_) ?_ ?_
          rotate_left
          ·simp only [Act.put, List.setIfInBounds_toArray, List.set, i64_w, i32_w]
           rfl
          refine one_ (i := 10) (N := some 9) #[true, true, true, true, true, true, true, true, true, true, true, true, false, false] rfl rfl (by kernel_rfl) (by decide) (fun K hK => ?_)
          refine box_step ?hg (N := 9) ?hd (cs := #[.int .i64 0, .int .i64 0]) (t := 27) ?hr ?_; (case hd => rfl); (case hg => rfl); (case hr => (go_simp; done))
          intro g10 hg wk hbox hb
          have HG10 := zA (show wr.drew.heap.size ≤ g10 by rw [hg]; exact below_size HW.out)
          have hN : g10 ≠ g11 := Nat.ne_of_gt (show g11 < g10 by rw [hg]; exact blk_lt HX11.out)
          replace HX11 := zA ((hb.block g11 (blk_lt HX11.out)).trans HX11.out)
          have HX10 := zA hbox
          clear hg hbox
          replace HW := zA (below_step HW.out hb)
          clear hb
          refine hK.out _ _ trivial (fun hHeld => ?_)
          clear hK K
          refine norm_ (a' := ?_) ?_ ?_
          rotate_left
          ·show Act.put _ (some 9) _ = _
           simp only [Act.put, List.setIfInBounds_toArray, List.set, i64_w, i32_w]
           rfl
          exact norm_ (by simp only [putAll, Act.put, List.setIfInBounds_toArray, List.set]) (hCont (g10, g11) _ ⟨HW.out, hN, HG10.out, HG11.out, HX10.out, HX11.out⟩)
         ·skip
          refine box_step ?hg (N := 9) ?hd (cs := #[.int .i64 0, .int .i64 0]) (t := 27) ?hr ?_; (case hd => rfl); (case hg => rfl); (case hr => (go_simp; done))
          intro g10 hg wk hbox hb
          have HG10 := zA (show wr.drew.heap.size ≤ g10 by rw [hg]; exact below_size HW.out)
          have hN : g10 ≠ g11 := Nat.ne_of_gt (show g11 < g10 by rw [hg]; exact blk_lt HX11.out)
          replace HX11 := zA ((hb.block g11 (blk_lt HX11.out)).trans HX11.out)
          have HX10 := zA hbox
          clear hg hbox
          replace HW := zA (below_step HW.out hb)
          clear hb
          refine hK.out _ _ trivial (fun hHeld => ?_)
          clear hK K
          refine norm_ (a' := ?_) ?_ ?_
          rotate_left
          ·show Act.put _ (some 9) _ = _
           simp only [Act.put, List.setIfInBounds_toArray, List.set, i64_w, i32_w]
           rfl
          refine one_ (i := 9) (N := some 55) #[true, true, true, true, true, true, true, true, true, true, true, true, false, false] rfl rfl (by kernel_rfl) (by decide) (fun K hK => ?_)
          refine goes_ Try.func137 (by kernel_rfl) rfl #[.pointer (some ⟨B', 0, none⟩), .string (x.extract i x.size)] (by rfl) rfl rfl (by (try simp only [List.map_toArray, List.map_cons, List.map_nil]); rfl) ?_; (with_reducible refine (at_ k base' B' g' cap' d n us bad' (x.extract i x.size) q HQ.out hq _ (HU0.out.below HW.out)).mono ?_); rintro e w5 ⟨rfl, hb⟩; refine ⟨_, rfl, ?_⟩
          replace HX10 := zA ((hb.block g10 (blk_lt HX10.out)).trans HX10.out)
          replace HX11 := zA ((hb.block g11 (blk_lt HX11.out)).trans HX11.out)
          replace HW := zA (below_step HW.out hb)
          clear hb
          refine hK.out _ _ trivial (fun hHeld => ?_)
          clear hK K
          refine norm_ (a' := ?_) ?_ ?_
          rotate_left
          ·simp only [Act.put, List.setIfInBounds_toArray, List.set, i64_w, i32_w]
           rfl
          exact norm_ (by simp only [putAll, Act.put, List.setIfInBounds_toArray, List.set]) (hCont (g10, g11) _ ⟨HW.out, hN, HG10.out, HG11.out, HX10.out, HX11.out⟩)
        ·skip
         refine box_step ?hg (N := 9) ?hd (cs := #[.int .i64 0, .int .i64 0]) (t := 27) ?hr ?_; (case hd => rfl); (case hg => rfl); (case hr => (go_simp; done))
         intro g10 hg wk hbox hb
         have HG10 := zA (show wr.drew.heap.size ≤ g10 by rw [hg]; exact below_size HW.out)
         have hN : g10 ≠ g11 := Nat.ne_of_gt (show g11 < g10 by rw [hg]; exact blk_lt HX11.out)
         replace HX11 := zA ((hb.block g11 (blk_lt HX11.out)).trans HX11.out)
         have HX10 := zA hbox
         clear hg hbox
         replace HW := zA (below_step HW.out hb)
         clear hb
         refine hK.out _ _ trivial (fun hHeld => ?_)
         clear hK K
         refine norm_ (a' := ?_) ?_ ?_
         rotate_left
         ·show Act.put _ (some 9) _ = _
          simp only [Act.put, List.setIfInBounds_toArray, List.set, i64_w, i32_w]
          rfl
         refine one_ (i := 4) (N := some 50) #[true, true, true, true, true, true, true, true, true, false, true, true, false, false] rfl rfl (by kernel_rfl) (by decide) (fun K hK => ?_)
         refine goes_ Try.func137 (by kernel_rfl) rfl #[.pointer (some ⟨B, 0, none⟩), .string (x.extract 0 i)] (by rfl) rfl rfl (by (try simp only [List.map_toArray, List.map_cons, List.map_nil]); rfl) ?_; (with_reducible refine (at_ k base B g cap d n vs false (x.extract 0 i) p HP.out hp _ (HT0.out.below HW.out)).mono ?_); rintro e w5 ⟨rfl, hb⟩; refine ⟨_, rfl, ?_⟩
         replace HX10 := zA ((hb.block g10 (blk_lt HX10.out)).trans HX10.out)
         replace HX11 := zA ((hb.block g11 (blk_lt HX11.out)).trans HX11.out)
         replace HW := zA (below_step HW.out hb)
         clear hb
         refine hK.out _ _ trivial (fun hHeld => ?_)
         clear hK K
         refine norm_ (a' := ?_) ?_ ?_
         rotate_left
         ·simp only [Act.put, List.setIfInBounds_toArray, List.set, i64_w, i32_w]
          rfl
         refine one_ (i := 9) (N := some 55) #[true, true, true, true, true, true, true, true, true, true, true, true, false, false] rfl rfl (by kernel_rfl) (by decide) (fun K hK => ?_)
         refine goes_ Try.func137 (by kernel_rfl) rfl #[.pointer (some ⟨B', 0, none⟩), .string (x.extract i x.size)] (by rfl) rfl rfl (by (try simp only [List.map_toArray, List.map_cons, List.map_nil]); rfl) ?_; (with_reducible refine (at_ k base' B' g' cap' d n us bad' (x.extract i x.size) q HQ.out hq _ (HU0.out.below HW.out)).mono ?_); rintro e w5 ⟨rfl, hb⟩; refine ⟨_, rfl, ?_⟩
         replace HX10 := zA ((hb.block g10 (blk_lt HX10.out)).trans HX10.out)
         replace HX11 := zA ((hb.block g11 (blk_lt HX11.out)).trans HX11.out)
         replace HW := zA (below_step HW.out hb)
         clear hb
         refine hK.out _ _ trivial (fun hHeld => ?_)
         clear hK K
         refine norm_ (a' := ?_) ?_ ?_
         rotate_left
         ·simp only [Act.put, List.setIfInBounds_toArray, List.set, i64_w, i32_w]
          rfl
         exact norm_ (by simp only [putAll, Act.put, List.setIfInBounds_toArray, List.set]) (hCont (g10, g11) _ ⟨HW.out, hN, HG10.out, HG11.out, HX10.out, HX11.out⟩)
      rintro ⟨ga, gb⟩ w9 ⟨hjb, hjn, hj1, hj2, hx1, hx2⟩
      dsimp only at hjn hj1 hj2 hx1 hx2
      obtain ⟨c00, c01, cf0⟩ := two_cells hx1
      have cf00 := cf0 0
      have cf01 := cf0 1
      clear cf0
      obtain ⟨c10, c11, cf1⟩ := two_cells hx2
      have cf10 := cf1 0
      have cf11 := cf1 1
      clear cf1
      refine norm_ (a' := ?_) ?_ ?_
      rotate_left
      ·simp only [putAll, Act.put, List.setIfInBounds_toArray, List.set]
       rfl
      refine one_ (i := 12) (N := none) #[true, true, true, true, true, true, true, true, true, true, true, true, true, false] rfl rfl (by kernel_rfl) (by decide) (fun K hK => ?_)
      go_simp
      refine hK.out _ _ trivial (fun hHeld => ?_)
      clear hK K
      have d0 : ((w9.setCell ⟨ga, 0, none⟩ (.int .i64 (rd_T27 vs (p : Int)).f0)).setCell ⟨ga, 1, none⟩ (.int .i64 (rd_T27 vs (p : Int)).f1)).cell? ⟨gb, 0, none⟩ = some (.int .i64 0) := cell_far hjn.symm (cell_far hjn.symm c10)
      have d1 : ((w9.setCell ⟨ga, 0, none⟩ (.int .i64 (rd_T27 vs (p : Int)).f0)).setCell ⟨ga, 1, none⟩ (.int .i64 (rd_T27 vs (p : Int)).f1)).cell? ⟨gb, 1, none⟩ = some (.int .i64 0) := cell_far hjn.symm (cell_far hjn.symm c11)
      refine one_ (i := 13) (N := none) #[true, true, true, true, true, true, true, true, true, true, true, true, true, true] rfl rfl (by kernel_rfl) (by decide) (fun K hK => ?_)
      go_simp
      refine hK.out _ _ trivial (fun hHeld => ?_)
      clear hK K
      refine done_ (by kernel_rfl) ?_
      have hA := blk_put (cs' := #[.int .i64 (rd_T27 vs (p : Int)).f0, .int .i64 (rd_T27 vs (p : Int)).f1]) (blk_put (cs' := #[.int .i64 (rd_T27 vs (p : Int)).f0, .int .i64 0]) hx1 0 (.int .i64 (rd_T27 vs (p : Int)).f0) rfl) 1 (.int .i64 (rd_T27 vs (p : Int)).f1) rfl
      have hB0 := ((Below.heap_setCell _ ⟨ga, 1, none⟩ (.int .i64 (rd_T27 vs (p : Int)).f1) gb hjn.symm).trans (Below.heap_setCell w9 ⟨ga, 0, none⟩ (.int .i64 (rd_T27 vs (p : Int)).f0) gb hjn.symm)).trans hx2
      have XB := zA (show ((((w9.setCell ⟨ga, 0, none⟩ (.int .i64 (rd_T27 vs (p : Int)).f0)).setCell ⟨ga, 1, none⟩ (.int .i64 (rd_T27 vs (p : Int)).f1)).setCell ⟨gb, 0, none⟩ (.int .i64 (rd_T27 us (q : Int)).f0)).setCell ⟨gb, 1, none⟩ (.int .i64 (rd_T27 us (q : Int)).f1)).heap[gb]? = some (.cells #[.int .i64 (rd_T27 us (q : Int)).f0, .int .i64 (rd_T27 us (q : Int)).f1] 27 (0, 0)) from blk_put (cs' := #[.int .i64 (rd_T27 us (q : Int)).f0, .int .i64 (rd_T27 us (q : Int)).f1]) (blk_put (cs' := #[.int .i64 (rd_T27 us (q : Int)).f0, .int .i64 0]) hB0 0 _ rfl) 1 _ rfl)
      have XA := zA (show ((((w9.setCell ⟨ga, 0, none⟩ (.int .i64 (rd_T27 vs (p : Int)).f0)).setCell ⟨ga, 1, none⟩ (.int .i64 (rd_T27 vs (p : Int)).f1)).setCell ⟨gb, 0, none⟩ (.int .i64 (rd_T27 us (q : Int)).f0)).setCell ⟨gb, 1, none⟩ (.int .i64 (rd_T27 us (q : Int)).f1)).heap[ga]? = some (.cells #[.int .i64 (rd_T27 vs (p : Int)).f0, .int .i64 (rd_T27 vs (p : Int)).f1] 27 (0, 0)) from ((Below.heap_setCell _ ⟨gb, 1, none⟩ _ ga hjn).trans (Below.heap_setCell _ ⟨gb, 0, none⟩ _ ga hjn)).trans hA)
      have HT10 := zA (show Tab ((((w9.setCell ⟨ga, 0, none⟩ (.int .i64 (rd_T27 vs (p : Int)).f0)).setCell ⟨ga, 1, none⟩ (.int .i64 (rd_T27 vs (p : Int)).f1)).setCell ⟨gb, 0, none⟩ (.int .i64 (rd_T27 us (q : Int)).f0)).setCell ⟨gb, 1, none⟩ (.int .i64 (rd_T27 us (q : Int)).f1)) w.heap.size Bo go capo d n os bo from (HO0.out.below hjb).move (fun kk hk => by have h1 : kk < wr.drew.heap.size := (by rcases hk with rfl | rfl; exact HO0.out.ltB; exact HO0.out.lt); exact (Below.heap_setCell _ ⟨gb, 1, none⟩ _ kk (by have := hj2; show kk ≠ gb; omega)).trans ((Below.heap_setCell _ ⟨gb, 0, none⟩ _ kk (by show kk ≠ gb; omega)).trans ((Below.heap_setCell _ ⟨ga, 1, none⟩ _ kk (by show kk ≠ ga; omega)).trans (Below.heap_setCell _ ⟨ga, 0, none⟩ _ kk (by show kk ≠ ga; omega))))))
      have WR10 := zA (show Kd.R Kd.string 9 ((((w9.setCell ⟨ga, 0, none⟩ (.int .i64 (rd_T27 vs (p : Int)).f0)).setCell ⟨ga, 1, none⟩ (.int .i64 (rd_T27 vs (p : Int)).f1)).setCell ⟨gb, 0, none⟩ (.int .i64 (rd_T27 us (q : Int)).f0)).setCell ⟨gb, 1, none⟩ (.int .i64 (rd_T27 us (q : Int)).f1)) w.heap.size (fun k => k = gw) (.slice (some ⟨gw, 0, none⟩) ws.length cw) ws from Kd.R_move (Kd.R_below WR0.out hjb) (fun kk hk => by have h1 : kk < wr.drew.heap.size := (own_lt (Kd.R_own WR0.out).choose_spec kk (by simp [Value.ownBlock, hk])); exact (Below.heap_setCell _ ⟨gb, 1, none⟩ _ kk (by show kk ≠ gb; omega)).trans ((Below.heap_setCell _ ⟨gb, 0, none⟩ _ kk (by show kk ≠ gb; omega)).trans ((Below.heap_setCell _ ⟨ga, 1, none⟩ _ kk (by show kk ≠ ga; omega)).trans (Below.heap_setCell _ ⟨ga, 0, none⟩ _ kk (by show kk ≠ ga; omega))))))
      have BB10 := zA (show Below w.heap.size w ((((w9.setCell ⟨ga, 0, none⟩ (.int .i64 (rd_T27 vs (p : Int)).f0)).setCell ⟨ga, 1, none⟩ (.int .i64 (rd_T27 vs (p : Int)).f1)).setCell ⟨gb, 0, none⟩ (.int .i64 (rd_T27 us (q : Int)).f0)).setCell ⟨gb, 1, none⟩ (.int .i64 (rd_T27 us (q : Int)).f1)) from below_set (below_set (below_set (below_set (below_step BB0.out hjb) (by omega)) (by omega)) (by omega)) (by omega))
      clear d0 d1 c00 c01 c10 c11 cf00 cf01 cf10 cf11 hA hB0 hx1 hx2 hjb
      generalize ((((w9.setCell ⟨ga, 0, none⟩ (.int .i64 (rd_T27 vs (p : Int)).f0)).setCell ⟨ga, 1, none⟩ (.int .i64 (rd_T27 vs (p : Int)).f1)).setCell ⟨gb, 0, none⟩ (.int .i64 (rd_T27 us (q : Int)).f0)).setCell ⟨gb, 1, none⟩ (.int .i64 (rd_T27 us (q : Int)).f1)) = w10 at XA XB HT10 WR10 BB10 ⊢

      have e0 := (blk_cell XA.out 0).trans (show _ = some (Value.int .i64 (rd_T27 vs (p : Int)).f0) from rfl)
      have e1 := (blk_cell XA.out 1).trans (show _ = some (Value.int .i64 (rd_T27 vs (p : Int)).f1) from rfl)
      have e2 := (blk_cell XB.out 0).trans (show _ = some (Value.int .i64 (rd_T27 us (q : Int)).f0) from rfl)
      have e3 := (blk_cell XB.out 1).trans (show _ = some (Value.int .i64 (rd_T27 us (q : Int)).f1) from rfl)
      by_cases ha : (rd_T27 vs (p : Int)).f0 = 0
      ·have H := HH.out
       rw [if_pos (Or.inl ha)] at H
       have a1 : ((rd_T27 vs (p : Int)).f0 != 0) = false := by rw [ha]; rfl
       have a2 : ((rd_T27 vs (p : Int)).f0 == 0) = true := by rw [ha]; rfl
       clear ha
       go_wp2
       exact ⟨⟨i + 1, os, bo, by omega, by go_num, ⟨H⟩, HL, HT10, WR10, BB10⟩, by simp [intOf]; omega⟩
      ·have a1 : ((rd_T27 vs (p : Int)).f0 != 0) = true := bne_iff_ne.mpr ha
       have a2 : ((rd_T27 vs (p : Int)).f0 == 0) = false := beq_eq_false_iff_ne.mpr ha
       by_cases hb : (rd_T27 us (q : Int)).f0 = 0
       ·have H := HH.out
        rw [if_pos (Or.inr hb)] at H
        have b1 : ((rd_T27 us (q : Int)).f0 != 0) = false := by rw [hb]; rfl
        have b2 : ((rd_T27 us (q : Int)).f0 == 0) = true := by rw [hb]; rfl
        clear ha hb
        go_wp2
        exact ⟨⟨i + 1, os, bo, by omega, by go_num, ⟨H⟩, HL, HT10, WR10, BB10⟩, by simp [intOf]; omega⟩
       ·have b1 : ((rd_T27 us (q : Int)).f0 != 0) = true := bne_iff_ne.mpr hb
        have b2 : ((rd_T27 us (q : Int)).f0 == 0) = false := beq_eq_false_iff_ne.mpr hb
        have H := HH.out
        rw [if_neg (not_or.2 ⟨ha, hb⟩)] at H
        clear ha hb
        obtain ⟨⟨m0, m1, m2⟩, AM, H⟩ := Option.bind_eq_some_iff.mp H
        obtain ⟨jj, AJ, H⟩ := Option.bind_eq_some_iff.mp H
        by_cases hjj : 0 ≤ jj ∧ jj < (os.length : Int)
        ·rw [if_pos hjj] at H
         obtain ⟨⟨s0_, s1_, s2_⟩, AS, H⟩ := Option.bind_eq_some_iff.mp H
         obtain ⟨jj, rfl⟩ := Int.eq_ofNat_of_zero_le hjj.1
         have hjl : jj < os.length := by omega
         dsimp only at H AS
         rw [Int.toNat_natCast] at H
         have AM := zA AM
         have AJ := zA AJ
         have AS := zA AS
         have HN1 := zA H
         clear H hjj
         go_wp2_with (go_at_call 138; refine (addTimes k w.heap.size Bo go capo d n os bo x jj _ _ _ _ m0 m1 s0_ s1_ m2 s2_ AJ.out hjl AM.out AS.out _ HT10.out).mono ?_; rintro e w11 ⟨rfl, ht, hto, hbb⟩; have HT11 := zA ht; have hgl := own_lt (Kd.R_own WR10.out).choose_spec gw (by simp [Value.ownBlock]); have WR11 := zA (Kd.R_move WR10.out (fun kk hk => by subst hk; exact hto.2 _ hgl hgB.symm hgg.symm)); have BB11 := zA (BB10.out.trans (hbb w.heap.size hBo hgo)); clear ht hto hbb hgl)
         exact ⟨⟨i + 1, _, _, by omega, by go_num, HN1, ⟨(addV_len2 _ _ _ _ _).trans hol⟩, HT11, WR11, BB11⟩, by simp [intOf]; omega⟩
        ·rw [if_neg hjj] at H
         exact absurd H (by simp)
     ·rw [if_neg hpq] at H
      exact absurd H (by simp)
    ·obtain rfl : i = x.size + 1 := by omega
     have H := H.out
     rw [Nat.sub_self] at H
     simp only [timesI] at H
     cases H
     have c1 : decide (((x.size + 1 : Nat) : Int) < wrap64 ((x.size : Int) + 1)) = false := by rw [wrap_small x.size hws]; exact decide_eq_false (by omega)
     have c2 : (((x.size : Int) + 1) < wrap64 ((x.size : Int) + 1)) = False := eq_false (by rw [wrap_small x.size hws]; omega)
     go_wp2
     exact ⟨⟨j + 1, _, _, by omega, by go_num, HN, HL, HTo, WR, BB⟩, by simp [intOf]; omega⟩
  ·obtain rfl : j = ws.length := by omega
   have H := H.out
   rw [List.drop_length] at H
   simp only [timesO] at H
   cases H
   go_wp2
   exact bodyPost_ret (results_tmp rfl _ _ _) rfl ⟨Bo, rfl, ⟨go, capo, HTo.out⟩, BB.out⟩
theorem times (k : Nat) (d n : Int) (ws : List ByteArray) (hk : impl_allWords.f k d n = some ws) (h1 : 1 ≤ ws.length) (h2 : ws.length ≤ 1000) (hx : ∀ x ∈ ws, x.size ≤ 1000) (base B g cap : Nat) (vs : List S27) (bad : Bool) (base' B' g' cap' : Nat) (us : List S27) (bad' : Bool) (r : List S27 × Bool) (hs : timesO k d vs us ws (List.replicate ws.length ⟨0, 1⟩) (bad || bad') = some r) (w : World) (h : Tab w base B g cap d n vs bad) (h' : Tab w base' B' g' cap' d n us bad') :
 Calls Try.prog 90 #[.pointer (some ⟨B, 0, none⟩), .pointer (some ⟨B', 0, none⟩)] w fun e w' => ∃ Bo go capo, e = .returned (.pointer (some ⟨Bo, 0, none⟩)) ∧ Tab w' w.heap.size Bo go capo d n r.1 r.2 ∧ Below w.heap.size w w' := by
 cases bad with
 | true => exact times_true k d n ws hk h1 h2 hx base B g cap vs base' B' g' cap' us bad' r hs w h h'
 | false => exact times_false k d n ws hk h1 h2 hx base B g cap vs base' B' g' cap' us bad' r hs w h h'
end Go.Proofs.Ytcklefgkbddlhaa.Tab
