/- The strict and the weak series: what a call of sumsSeries comes to. -/
import Derived.Test.YtfbkjlgibpmpoaaPx7
import Derived.Test.YtfbkjlgibpmpoaaPx6
import Derived.Test.YtfbkjlgibpmpoaaPx8
import Derived.Test.YtfbkjlgibpmpoaaTabE
namespace Go.Proofs.Ytfbkjlgibpmpoaa.Tab
open Go.RowKit Go.Proofs.Ytfbkjlgibpmpoaa.P Go.Proofs.YtfbkjlgibpmpoaaW.PrintWords Go.Proofs.YtfbkjlgibpmpoaaW.PrintLast Go.Proofs.YtfbkjlgibpmpoaaW.PrintMore
set_option linter.unusedVariables false
set_option linter.unusedSimpArgs false

theorem row_okS {w : World} {base n cap g : Nat} {ok : Nat → Prop} {vs : List ByteArray} (h : Kd.R Kd.string 9 w base ok (.slice (some ⟨g, 0, none⟩) n cap) vs) : Kd.R Kd.string 9 w base (fun k => k = g) (.slice (some ⟨g, 0, none⟩) n cap) vs := by
  refine ⟨fun k hk => ?_, h.2.imp_ (fun p c hp => hp)⟩
  simp [Value.ownBlock] at hk
  exact hk.symm
/-- The values and the mark behind so many words. -/
def fillS (sa : Nat → Int) (ok : Nat → Bool) (n : Nat) : Nat → List S79 × Bool
  | 0 => (List.replicate n ⟨0, 1⟩, false)
  | i + 1 => ((fillS sa ok n i).1.set i ⟨sel (ok i) (sa i) 0, sel (ok i) 1 1⟩, (fillS sa ok n i).2 || !ok i)
theorem fillS_length (sa : Nat → Int) (ok : Nat → Bool) (n : Nat) : ∀ i, (fillS sa ok n i).1.length = n
  | 0 => by simp [fillS]
  | i + 1 => by rw [fillS, List.length_set]; exact fillS_length sa ok n i
theorem keep_far {w : World} {B g A j j' : Nat} {u v0 v1 x y : Value} (hB : B ≠ g) (hA : A ≠ g) (h : w.cell? ⟨B, 2, none⟩ = some u ∧ w.cell? ⟨A, 0, none⟩ = some v0 ∧ w.cell? ⟨A, 1, none⟩ = some v1) :
    ((w.setCell ⟨g, j, none⟩ x).setCell ⟨g, j', none⟩ y).cell? ⟨B, 2, none⟩ = some u ∧ ((w.setCell ⟨g, j, none⟩ x).setCell ⟨g, j', none⟩ y).cell? ⟨A, 0, none⟩ = some v0 ∧ ((w.setCell ⟨g, j, none⟩ x).setCell ⟨g, j', none⟩ y).cell? ⟨A, 1, none⟩ = some v1 := by
  have e : ∀ k, k ≠ g → ((w.setCell ⟨g, j, none⟩ x).setCell ⟨g, j', none⟩ y).heap[k]? = w.heap[k]? := fun k hk => (Below.heap_setCell _ ⟨g, j', none⟩ _ k hk).trans (Below.heap_setCell w ⟨g, j, none⟩ _ k hk)
  exact ⟨(cell_of_block (e B hB)).trans h.1, (cell_of_block (e A hA)).trans h.2.1, (cell_of_block (e A hA)).trans h.2.2⟩
set_option maxHeartbeats 16000000 in
set_option maxRecDepth 100000 in
theorem sums_yes (k : Nat) (d n : Int) (ws : List ByteArray) (hk : impl_allWords.f k d n = some ws) (h1 : 1 ≤ ws.length) (h2 : ws.length ≤ 1000) (A0 : Option Addr) (c0 : Nat) (l : List (List Int)) (weak : Bool) (w : World)
    (hr : Kd.C (Kd.slice 2 (Kd.int .i64)) w A0 l.length l) (hc : l.length ≤ c0) (hp : impl_pathCode.f d n l = some 0) (sa : Nat → Int) (ok : Nat → Bool)
    (hsa : ∀ i : Nat, i < ws.length → impl_sumAt.f k l (rdOf ByteArray.empty ws (i : Int)) weak = some (sa i)) (hok : ∀ i : Nat, i < ws.length → impl_IsFraction.f k (sa i) 1 = some (ok i)) :
    Calls Try.prog 74 #[.int .i64 d, .int .i64 n, .slice A0 l.length c0, .bool weak] w fun e w' => ∃ v, e = .returned (.tuple #[.agg #[.int .i64 (toldOf d n ws (fillS sa ok ws.length ws.length).1 (fillS sa ok ws.length ws.length).2).1, .int .i64 (toldOf d n ws (fillS sa ok ws.length ws.length).1 (fillS sa ok ws.length ws.length).2).2.1, v], .int .i64 (toldOf d n ws (fillS sa ok ws.length ws.length).1 (fillS sa ok ws.length ws.length).2).2.2.2]) ∧
      Kd.R k99 99 w' w.heap.size (fun _ => True) v (toldOf d n ws (fillS sa ok ws.length ws.length).1 (fillS sa ok ws.length ws.length).2).2.2.1 ∧ Below w.heap.size w w' := by
  generalize hTO : toldOf d n ws (fillS sa ok ws.length ws.length).1 (fillS sa ok ws.length ws.length).2 = TO
  obtain ⟨t1, t2, t3, t4⟩ := TO
  have HTO := Aside0.mk hTO
  clear hTO
  dsimp only
  have HK := Aside0.mk hk
  have HR := Aside0.mk hr
  have HC := Aside0.mk hc
  have HP := Aside0.mk hp
  have HSA := Aside0.mk hsa
  have HOK := Aside0.mk hok
  clear hk hr hc hp hsa hok
  have B0 := Aside0.mk (below_alloc (Below.refl w.heap.size w) (.cells #[.int .i64 0, .int .i64 0, .slice none 0 0] 24))
  have R0 := Aside0.mk (blk_new w (.cells #[.int .i64 0, .int .i64 0, .slice none 0 0] 24))
  go_enter Try.func74, Try.ntmps74
  go_wp2_with (first
    | (go_at_call 119; refine (impl_pathCode.calls d n A0 c0 l 0 _ (Kd.C_below HR.out B0.out) HC.out HP.out).mono ?_; rintro e w1 ⟨rfl, hb⟩; have R1 := Aside0.mk ((hb.block w.heap.size (by simp)).trans R0.out); have B1 := Aside0.mk (below_step B0.out hb); clear hb R0 B0)
    | (go_at_call 120; refine (newTable k d n ws HK.out h1 h2 _).mono ?_; rintro e w2 ⟨B, g, cap, rfl, ht, hb⟩; have hsz := below_size B1.out; have R2 := Aside0.mk ((hb.block w.heap.size (Array.getElem?_eq_some_iff.1 R1.out).1).trans R1.out); have B2 := Aside0.mk (below_step B1.out hb); have T2 := Aside0.mk (ht.lower (base' := w.heap.size) hsz); have hltR := (Array.getElem?_eq_some_iff.1 R1.out).1; have hBR : w.heap.size < B := Nat.lt_of_lt_of_le hltR ht.hB; have hgR : w.heap.size < g := Nat.lt_of_lt_of_le hltR ht.hg; clear hb ht R1 B1 hsz hltR)
    | (go_at_call 121; refine (impl_allWords.calls k d n ws _ HK.out).mono ?_; rintro e w3 ⟨v0, rfl, hv0, hb⟩; obtain ⟨gw, cw, rfl, hgw1, hgw2, hgw3⟩ := Kd.R_form hv0 (by omega); have hsz := below_size B2.out; have R3 := Aside0.mk ((hb.block w.heap.size (Array.getElem?_eq_some_iff.1 R2.out).1).trans R2.out); have T3 := Aside0.mk (T2.out.below hb); have hgB : B ≠ gw := Nat.ne_of_lt (Nat.lt_of_lt_of_le T2.out.ltB hgw1); have hgg : g ≠ gw := Nat.ne_of_lt (Nat.lt_of_lt_of_le T2.out.lt hgw1); have hgwR : w.heap.size < gw := Nat.lt_of_lt_of_le (Array.getElem?_eq_some_iff.1 R2.out).1 hgw1; have W3 := Aside0.mk (row_okS (Kd.R_lower hv0 (base' := w.heap.size) hsz)); have B3 := Aside0.mk (below_step B2.out hb); clear hb hv0 hgw1 hgw2 hgw3 hsz R2 T2 B2))
  go_loopw [30] (fun s30 wr => ∃ (i : Nat), i ≤ ws.length ∧ s30 = .int .i64 i ∧ Aside0 (Tab wr w.heap.size B g cap d n (fillS sa ok ws.length i).1 (fillS sa ok ws.length i).2) ∧ Aside0 (wr.heap[w.heap.size]? = some (.cells #[.int .i64 0, .int .i64 0, .slice none 0 0] 24 (0, 0))) ∧ Aside0 (Kd.R Kd.string 9 wr w.heap.size (fun k => k = gw) (.slice (some ⟨gw, 0, none⟩) ws.length cw) ws) ∧ Aside0 (Below w.heap.size w wr)) (fun s30 _ => ws.length - (intOf s30).toNat)
  case atStart => exact ⟨0, Nat.zero_le _, rfl, T3, R3, W3, B3⟩
  case round =>
    clear T3 R3 W3 B3
    obtain ⟨i, hi, rfl, HT, RB, WR, BB⟩ := hrel
    by_cases hlt : i < ws.length
    · have hltz : (i : Int) < (ws.length : Int) := by omega
      obtain ⟨y0, _⟩ := Kd.R_celln ByteArray.empty WR.out (i : Int) (by omega) hltz
      rw [Int.toNat_natCast] at y0
      have HS := Aside0.mk (HSA.out i hlt)
      have HF := Aside0.mk (HOK.out i hlt)
      go_wp2_with (first
        | (go_at_call 123; refine (impl_sumAt.calls k A0 c0 l _ weak (sa i) _ (Kd.C_below HR.out BB.out) HC.out HS.out).mono ?_; rintro e w4 ⟨rfl, hb⟩; have HT4 := Aside0.mk (HT.out.below hb); have RB4 := Aside0.mk ((hb.block w.heap.size (Array.getElem?_eq_some_iff.1 RB.out).1).trans RB.out); have WR4 := Aside0.mk (Kd.R_below WR.out hb); have BB4 := Aside0.mk (below_step BB.out hb); clear hb)
        | (go_at_call 122; refine (impl_whole.calls (sa i) (sa i) 1 _ rfl).mono ?_; rintro e w5 ⟨rfl, hb⟩; have HT5 := Aside0.mk (HT4.out.below hb); have RB5 := Aside0.mk ((hb.block w.heap.size (Array.getElem?_eq_some_iff.1 RB4.out).1).trans RB4.out); have WR5 := Aside0.mk (Kd.R_below WR4.out hb); have BB5 := Aside0.mk (below_step BB4.out hb); clear hb))
      have hb6 := below_alloc (Below.refl w5.heap.size w5) (.cells #[.int .i64 (sa i), .int .i64 1] 79)
      have HT6 := Aside0.mk (HT5.out.below hb6)
      have RB6 := Aside0.mk ((hb6.block w.heap.size (Array.getElem?_eq_some_iff.1 RB5.out).1).trans RB5.out)
      have WR6 := Aside0.mk (Kd.R_below WR5.out hb6)
      have BB6 := Aside0.mk (below_step BB5.out hb6)
      have AB6 := Aside0.mk (blk_new w5 (.cells #[.int .i64 (sa i), .int .i64 1] 79))
      have hBA : B < w5.heap.size := HT5.out.ltB
      have hgA : g < w5.heap.size := HT5.out.lt
      have hwA : w.heap.size ≤ w5.heap.size := below_size BB5.out
      clear hb6 HT5 RB5 WR5 BB5
      generalize w5.alloc (.cells #[.int .i64 (sa i), .int .i64 1] 79) = W6 at HT6 RB6 WR6 BB6 AB6 ⊢
      generalize w5.heap.size = A at AB6 hBA hgA hwA ⊢
      have x2 := HT6.out.cells.2.2.1
      rw [fillS_length] at x2
      have a0 : W6.cell? ⟨A, 0, none⟩ = some (.int .i64 (sa i)) := (blk_cell AB6.out 0).trans rfl
      have a1 : W6.cell? ⟨A, 1, none⟩ = some (.int .i64 1) := (blk_cell AB6.out 1).trans rfl
      have p1 : (0 ≤ (i : Int)) = True := eq_true (by omega)
      have p2 : ((i : Int) < (ws.length : Int)) = True := eq_true hltz
      have p3 : (i < ws.length) = True := eq_true hlt
      have hAl := (Array.getElem?_eq_some_iff.1 AB6.out).1
      have hK1 : ∀ W7 : World, Below W6.heap.size W6 W7 → W7.cell? ⟨B, 2, none⟩ = some (.slice (some ⟨g, 0, none⟩) ws.length cap) ∧ W7.cell? ⟨A, 0, none⟩ = some (.int .i64 (sa i)) ∧ W7.cell? ⟨A, 1, none⟩ = some (.int .i64 1) := fun W7 hb => ⟨pw_cell_below hb x2, pw_cell_below hb a0, pw_cell_below hb a1⟩
      have HK1 := Aside0.mk hK1
      clear hK1
      go_region_held3 (fun w' => w'.cell? ⟨B, 2, none⟩ = some (.slice (some ⟨g, 0, none⟩) ws.length cap) ∧ w'.cell? ⟨A, 0, none⟩ = some (.int .i64 (sa i)) ∧ w'.cell? ⟨A, 1, none⟩ = some (.int .i64 1))
        (first | exact HK1.out _ (below_step (below_drew (Below.refl _ _)) hb7) | exact hq8 | exact hq9 | go_keep)
        (first
          | (go_at_call 125; refine (impl_IsFraction.calls k (sa i) 1 (ok i) _ HF.out).mono ?_; rintro e w7 ⟨rfl, hb7⟩)
          | (go_at_call 124; refine (check (sa i) 1 (ok i) w.heap.size B g cap d n _ _ _ ((HT6.out.below (below_drew (Below.refl _ _))).below hb7)).mono ?_; rintro e w8 ⟨rfl, ht8, hto8, hbb8⟩; have n7 := HK1.out _ (below_step (below_drew (Below.refl _ _)) hb7); have q2 := ht8.cells.2.2.1; rw [fillS_length] at q2; have hA7 : A < w7.heap.size := Nat.lt_of_lt_of_le hAl hb7.size; have eA := hto8.2 A hA7 (Nat.ne_of_gt hBA); have hq8 : w8.cell? ⟨B, 2, none⟩ = some (.slice (some ⟨g, 0, none⟩) ws.length cap) ∧ w8.cell? ⟨A, 0, none⟩ = some (.int .i64 (sa i)) ∧ w8.cell? ⟨A, 1, none⟩ = some (.int .i64 1) := ⟨q2, (cell_of_block eA).trans n7.2.1, (cell_of_block eA).trans n7.2.2⟩; obtain ⟨gv0, gv1, gvf⟩ := ht8.val (i : Int) (by omega) (by rw [fillS_length]; exact hltz); rw [Int.toNat_natCast] at gv0 gv1; have gf0 := gvf (i * 2); have gf1 := gvf (i * 2 + 1); have hq9 := keep_far (x := .int .i64 (sel (ok i) (sa i) 0)) (y := .int .i64 (sel (ok i) 1 1)) (j := i * 2) (j' := i * 2 + 1) ht8.ne (Nat.ne_of_gt hgA) hq8; clear n7 q2 eA gvf))
      go_wp2
      have hp := ht8.put (i : Int) (by omega) (by rw [fillS_length]; exact hltz) (sel (ok i) (sa i) 0) (sel (ok i) 1 1)
      rw [Int.toNat_natCast] at hp
      have far : ∀ kk, kk ≠ g → kk ≠ B → kk < W6.heap.size → ((w8.setCell ⟨g, i * 2, none⟩ (.int .i64 (sel (ok i) (sa i) 0))).setCell ⟨g, i * 2 + 1, none⟩ (.int .i64 (sel (ok i) 1 1))).heap[kk]? = W6.heap[kk]? := fun kk e1 e2 e3 =>
        (Below.heap_setCell _ ⟨g, i * 2 + 1, none⟩ _ kk e1).trans ((Below.heap_setCell w8 ⟨g, i * 2, none⟩ _ kk e1).trans ((hto8.2 kk (Nat.lt_of_lt_of_le e3 hb7.size) e2).trans (hb7.block kk e3)))
      have hgwl : gw < W6.heap.size := by
        obtain ⟨inner, ho⟩ := Kd.R_own WR6.out
        exact own_lt ho gw (by simp [Value.ownBlock])
      have hb9 : Below w.heap.size w w8 := (below_step (below_drew BB6.out) hb7).trans (hbb8 w.heap.size (by omega))
      refine ⟨⟨i + 1, by omega, by go_num, ⟨hp⟩, ⟨(far _ (by omega) (by omega) (Array.getElem?_eq_some_iff.1 RB6.out).1).trans RB6.out⟩, ⟨Kd.R_move WR6.out (fun kk hk => by subst hk; exact far _ hgg.symm hgB.symm hgwl)⟩, ⟨below_set (below_set hb9 (by omega)) (by omega)⟩⟩, by simp [intOf]; omega⟩
    · obtain rfl : i = ws.length := by omega
      have hBl := below_size BB.out
      go_wp2_with (go_at_call 93; refine (told k d n ws HK.out h1 h2 w.heap.size B g cap _ _ (fillS_length _ _ _ _) _ HT.out).mono ?_; rw [HTO.out]; rintro e w9 ⟨v, rfl, hv, hb⟩; obtain ⟨At, ct, rfl⟩ := Kd.R_slice hv; have hr := (hb.block w.heap.size (Array.getElem?_eq_some_iff.1 RB.out).1).trans RB.out; have r0 : w9.cell? ⟨w.heap.size, 0, none⟩ = some (.int .i64 0) := (blk_cell hr 0).trans rfl; have r1 : w9.cell? ⟨w.heap.size, 1, none⟩ = some (.int .i64 0) := (blk_cell hr 1).trans rfl; have r2 : w9.cell? ⟨w.heap.size, 2, none⟩ = some (.slice none 0 0) := (blk_cell hr 2).trans rfl; have f0 := blk_frozen hr 0; have f1 := blk_frozen hr 1; have f2 := blk_frozen hr 2; have HRR := Aside0.mk hr; have HV := Aside0.mk hv; have HB9 := Aside0.mk (below_step BB.out hb); clear hr hv hb)
      have q0 := HRR.out
      have q1 := blk_put (cs' := #[.int .i64 t1, .int .i64 0, .slice none 0 0]) q0 0 (.int .i64 t1) rfl
      have q2 := blk_put (cs' := #[.int .i64 t1, .int .i64 t2, .slice none 0 0]) q1 1 (.int .i64 t2) rfl
      refine bodyPost_ret (results_list (rs := [.cell 8 24, .tmp 9]) (vs := [.agg #[.int .i64 t1, .int .i64 t2, .slice At t3.length ct], .int .i64 t4]) rfl (show (2 : Nat) ≠ 1 from by decide) (.cell w.heap.size 24 #[.int .i64 t1, .int .i64 t2, .slice At t3.length ct] (0, 0) _ rfl (blk_put q2 2 _ rfl) Try.underlying24 rfl (by kernel_rfl) (.tmp .nil))) rfl ?_
      exact ⟨_, rfl, Kd.R_set (Kd.R_set (Kd.R_set (Kd.R_lower HV.out hBl) q0 (by decide) 0 _) q1 (by decide) 1 _) q2 (by decide) 2 _, below_set (below_set (below_set HB9.out (Nat.le_refl _)) (Nat.le_refl _)) (Nat.le_refl _)⟩
end Go.Proofs.Ytfbkjlgibpmpoaa.Tab
