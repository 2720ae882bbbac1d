/- What a call of impl.WordOfSignature comes to. -/
import Derived.Test.YtcklefgkbddlhaaTabW
namespace Go.Proofs.Ytcklefgkbddlhaa.Tab
open Go.RowKit Go.Proofs.Ytcklefgkbddlhaa.P Go.Proofs.YtcklefgkbddlhaaW.PrintWords Go.Proofs.YtcklefgkbddlhaaW.PrintLast Go.Proofs.YtcklefgkbddlhaaW.PrintMore
set_option linter.unusedVariables false
set_option linter.unusedSimpArgs false

theorem infoRdr : (Try.prog.info? 105).map (fun i => (i.zero, i.size, i.bytes)) = some (some (.agg #[(.slice none 0 0), (.pointer none)]), 2, 32) := by kernel_rfl
set_option maxHeartbeats 16000000 in
set_option maxRecDepth 100000 in
theorem WordOfSignature_calls (k : Nat) (a0 a1 : Int) (A : Option Addr) (c : Nat) (l : List S89) (r1 : List Int) (r2 : Int) (w : World) (hr : Kd.C k89 w A l.length l) (hc : l.length ≤ c) (h : WordOfSignature_f k a0 a1 l = some (r1, r2)) :
 Calls Try.prog 39 #[.agg #[.int .i64 a0, .int .i64 a1, .slice A l.length c]] w fun e w' => ∃ v0_ : Value, e = .returned (.tuple #[v0_, .int .i64 r2]) ∧ Kd.R (Kd.int .i64) 2 w' w.heap.size (fun _ => True) v0_ r1 ∧ Below w.heap.size w w' := by
 have HR := zA hr
 have HC := zA hc
 clear hr hc
 unfold WordOfSignature_f at h
 obtain ⟨b1, A1, h⟩ := Option.bind_eq_some_iff.mp h
 have A1 := zA A1
 have B0 := zA (below_alloc (Below.refl w.heap.size w) (.cells #[.int .i64 a0, .int .i64 a1, .slice A l.length c] 32))
 have X0 := zA (blk_new w (.cells #[.int .i64 a0, .int .i64 a1, .slice A l.length c] 32))
 have y0 : (w.alloc (.cells #[.int .i64 a0, .int .i64 a1, .slice A l.length c] 32)).cell? ⟨w.heap.size, 0, none⟩ = some (.int .i64 a0) := (blk_cell X0.out 0).trans rfl
 have y1 : (w.alloc (.cells #[.int .i64 a0, .int .i64 a1, .slice A l.length c] 32)).cell? ⟨w.heap.size, 1, none⟩ = some (.int .i64 a1) := (blk_cell X0.out 1).trans rfl
 have y2 : (w.alloc (.cells #[.int .i64 a0, .int .i64 a1, .slice A l.length c] 32)).cell? ⟨w.heap.size, 2, none⟩ = some (.slice A l.length c) := (blk_cell X0.out 2).trans rfl
 cases b1 with
 | false =>
  rw [if_neg (by simp)] at h
  cases h
  go_enter Try.func39, Try.ntmps39
  go_wp2_with (go_at_call 57; refine (impl_IsSeries.calls k _ _ _ c l false _ (Kd.C_below HR.out B0.out) HC.out A1.out).mono ?_; rintro e1 w1 ⟨rfl, hb⟩; have B1 := zA (below_step B0.out hb))
  go_ret2
  exact ⟨.slice none 0 0, rfl, Kd.R_nil _ _ _ _ _, B1.out⟩
 | true =>
  rw [if_pos rfl] at h
  obtain ⟨ws, A4, h⟩ := Option.bind_eq_some_iff.mp h
  by_cases hws : 0 ≤ a0 ∧ a0 ≤ 3 ∧ 0 ≤ a1 ∧ 1 ≤ ws.length ∧ ws.length ≤ 1000 ∧ a1.toNat ≤ 1000 ∧ ∀ x ∈ ws, x.size ≤ 1000
  ·rw [if_pos hws] at h
   obtain ⟨D, rfl⟩ := Int.eq_ofNat_of_zero_le hws.1
   obtain ⟨N, rfl⟩ := Int.eq_ofNat_of_zero_le hws.2.2.1
   rw [Int.toNat_natCast] at h hws
   have hw1 := hws.2.2.2
   have hD := hws.2.1
   clear hws
   have A4 := zA A4
   have H := zA h
   clear h
   go_enter Try.func39, Try.ntmps39
   go_wp2_with (go_at_call 57; refine (impl_IsSeries.calls k _ _ _ c l true _ (Kd.C_below HR.out B0.out) HC.out A1.out).mono ?_; rintro e1 w1 ⟨rfl, hb⟩; have X1 := zA ((hb.block w.heap.size (blk_lt X0.out)).trans X0.out); have B1 := zA (below_step B0.out hb); clear hb y0 y1 y2; have y0 : w1.cell? ⟨w.heap.size, 0, none⟩ = some (.int .i64 (D : Int)) := (blk_cell X1.out 0).trans rfl; have y1 : w1.cell? ⟨w.heap.size, 1, none⟩ = some (.int .i64 (N : Int)) := (blk_cell X1.out 1).trans rfl; have y2 : w1.cell? ⟨w.heap.size, 2, none⟩ = some (.slice A l.length c) := (blk_cell X1.out 2).trans rfl)
   go_region_held3 (fun w' => w'.cell? ⟨w.heap.size, 0, none⟩ = some (.int .i64 (D : Int)) ∧ w'.cell? ⟨w.heap.size, 1, none⟩ = some (.int .i64 (N : Int))) (go_keep) (first | fail)
   all_goals go_wp2_with (first | (go_at_call 85; refine (newTable k (D : Int) (N : Int) ws A4.out hw1.1 hw1.2.1 _).mono ?_; rintro e2 w2 ⟨B2, g2, c2, rfl, ht, hb⟩; have T2 := zA ht; have X2 := zA ((hb.block w.heap.size (blk_lt X1.out)).trans X1.out); have BB2 := zA (below_step (below_drew B1.out) hb); clear ht hb) | (go_at_call 86; refine (unit k (D : Int) (N : Int) ws A4.out hw1.1 hw1.2.1 _ B2 g2 c2 _ false _ T2.out).mono ?_; rintro e3 w3 ⟨B3, g3, c3, rfl, ht, hb⟩; have T3 := zA (ht.lower (base' := w.heap.size) (below_size BB2.out)); have X3 := zA ((hb.block w.heap.size (blk_lt X2.out)).trans X2.out); have BB3 := zA (below_step BB2.out hb); clear ht hb))
   have HRW := zA (R_lit1 (kRdr (D : Int) (N : Int)) (e := 105) (ok := fun _ => True) (rdr_mk (ok := fun _ => True) (x := ([], unitV ws.length, false)) (v := .slice none 0 0) (Kd.R_nil _ _ _ _ _) T3.out trivial trivial) rfl (fun _ hk => hk) trivial (below_size BB3.out))
   have X4 := zA (blk_alloc X3.out (.cells #[.slice none 0 0, .pointer (some ⟨B3, 0, none⟩)] 105))
   have BB4 := zA (below_alloc BB3.out (.cells #[.slice none 0 0, .pointer (some ⟨B3, 0, none⟩)] 105))
   go_loopw [6, 7] (fun s6 s7 wr => ∃ (m : Nat) (rs : List (List Int × (List S27 × Bool))), m ≤ N ∧ rs.length ≤ 100000 ∧ (∀ x ∈ rs, x.2.1.length = ws.length) ∧ (∀ x ∈ rs, x.1.length ≤ m) ∧ s7 = .int .i64 m ∧ Aside0 (roundsR k (D : Int) N ws l (N - m) rs = some (r1, r2)) ∧ Aside0 (Kd.R (kRdr (D : Int) (N : Int)) 105 wr w.heap.size (fun _ => True) s6 rs) ∧ Aside0 (wr.heap[w.heap.size]? = some (.cells #[.int .i64 (D : Int), .int .i64 (N : Int), .slice A l.length c] 32 (0, 0))) ∧ Aside0 (Below w.heap.size w wr)) (fun _ s7 _ => N + 1 - (intOf s7).toNat)
   case atStart => exact ⟨0, _, Nat.zero_le _, by simp, (by intro x hx; rw [List.mem_singleton.1 hx]; exact unitV_length ws.length), (by intro x hx; rw [List.mem_singleton.1 hx]; exact Nat.le_refl 0), rfl, H, HRW, X4, BB4⟩
   case round =>
    clear HRW X4 BB4 H T3 X3 BB3 T2 X2 BB2 X1 B1
    try clear y0 y1 y2
    obtain ⟨m, rs, hm, hrs, hall, hwds, rfl, H, HL, X1, BB⟩ := hrel
    have hall := zA hall
    have hwds := zA hwds
    obtain ⟨Al, cl, rfl⟩ := Kd.R_slice HL.out
    obtain ⟨o, AF, HF, HG⟩ := rounds_open H.out
    have AF := zA AF
    have HF := zA HF
    have HG := zA HG
    clear H
    have hbig : rs.length ≤ 9223372036854775807 := by omega
    go_wp2
    go_loopw [33] (fun s33 w4 => ∃ (i : Nat), i ≤ rs.length ∧ s33 = .int .i64 i ∧ Aside0 (findR k (D : Int) (N : Int) ws l (rs.drop i) = some o) ∧ Aside0 (Kd.R (kRdr (D : Int) (N : Int)) 105 w4 w.heap.size (fun _ => True) (.slice Al rs.length cl) rs) ∧ Aside0 (w4.heap[w.heap.size]? = some (.cells #[.int .i64 (D : Int), .int .i64 (N : Int), .slice A l.length c] 32 (0, 0))) ∧ Aside0 (Below w.heap.size w w4)) (fun s33 _ => rs.length - (intOf s33).toNat)
    case atStart => exact ⟨0, Nat.zero_le _, rfl, AF, HL, X1, BB⟩
    case round =>
     clear AF HL X1 BB
     obtain ⟨i, hi, rfl, H, HL, X1, BB⟩ := hrel
     by_cases hlt : i < rs.length
     ·have H := H.out
      rw [List.drop_eq_getElem_cons hlt] at H
      simp only [findR] at H
      obtain ⟨b, AB, H⟩ := Option.bind_eq_some_iff.mp H
      have AB := zA AB
      obtain ⟨g5, c5, e5, hg5, hl5, hc5⟩ := Kd.R_form HL.out (by omega)
      injection e5 with ea _ ec
      subst ea
      subst ec
      obtain ⟨cs, hcl, hM, hcell, hfr⟩ := Kd.R_elem HL.out ([], [], false) (i : Int) (by omega) (by omega)
      rw [Int.toNat_natCast] at hM hcell hfr
      rw [show rs.getD i ([], [], false) = rs[i] from by simp [List.getD_eq_getElem?_getD, hlt]] at hM
      obtain ⟨v, B, g, cap, rfl, hv, hT, _, _⟩ := rdr_open hM
      obtain ⟨Av, cv, rfl⟩ := Kd.R_slice hv
      have HV := zA hv
      have HT := zA hT
      have x0 := hcell 0 _ rfl
      have x1 := hcell 1 _ rfl
      rw [Nat.add_zero, show (kRdr (D : Int) (N : Int)).sz = 2 from rfl] at x0
      rw [show (kRdr (D : Int) (N : Int)).sz = 2 from rfl] at x1
      clear hv hT hM hcell hfr hcl
      have p1 : (0 ≤ (i : Int)) = True := eq_true (by omega)
      have p2 : ((i : Int) < (rs.length : Int)) = True := eq_true (by omega)
      have p3 : (i < rs.length) = True := eq_true hlt
      have hu105 := Try.underlying105
      go_wp2
      have X5 := zA (blk_new wr (.cells #[.slice Av rs[i].1.length cv, .pointer (some ⟨B, 0, none⟩)] 105))
      have X1 := zA (blk_alloc X1.out (.cells #[.slice Av rs[i].1.length cv, .pointer (some ⟨B, 0, none⟩)] 105))
      have be : Below wr.heap.size wr (wr.alloc (.cells #[.slice Av rs[i].1.length cv, .pointer (some ⟨B, 0, none⟩)] 105)) := below_alloc (Below.refl _ _) _
      have HT := zA (HT.out.below be)
      have HV := zA (Kd.R_below HV.out be)
      have HL := zA (Kd.R_below HL.out be)
      have BB := zA (below_step BB.out be)
      clear be x0 x1
      generalize (wr.alloc (.cells #[.slice Av rs[i].1.length cv, .pointer (some ⟨B, 0, none⟩)] 105)) = W5 at X5 X1 HT HV HL BB ⊢
      have c0 : W5.cell? ⟨wr.heap.size, 0, none⟩ = some (.slice Av rs[i].1.length cv) := (blk_cell X5.out 0).trans rfl
      have c1 : W5.cell? ⟨wr.heap.size, 1, none⟩ = some (.pointer (some ⟨B, 0, none⟩)) := (blk_cell X5.out 1).trans rfl
      have y0 : W5.cell? ⟨w.heap.size, 0, none⟩ = some (.int .i64 (D : Int)) := (blk_cell X1.out 0).trans rfl
      have y1 : W5.cell? ⟨w.heap.size, 1, none⟩ = some (.int .i64 (N : Int)) := (blk_cell X1.out 1).trans rfl
      have y2 : W5.cell? ⟨w.heap.size, 2, none⟩ = some (.slice A l.length c) := (blk_cell X1.out 2).trans rfl
      have hK1 : ∀ W7 : World, Below W5.heap.size W5 W7 → W7.cell? ⟨wr.heap.size, 1, none⟩ = some (.pointer (some ⟨B, 0, none⟩)) ∧ W7.cell? ⟨w.heap.size, 0, none⟩ = some (.int .i64 (D : Int)) ∧ W7.cell? ⟨w.heap.size, 1, none⟩ = some (.int .i64 (N : Int)) ∧ W7.cell? ⟨w.heap.size, 2, none⟩ = some (.slice A l.length c) := fun W7 hb => ⟨pw_cell_below hb c1, pw_cell_below hb y0, pw_cell_below hb y1, pw_cell_below hb y2⟩
      have HK1 := zA hK1
      clear hK1
      go_region_held3 (fun w' => w'.cell? ⟨wr.heap.size, 1, none⟩ = some (.pointer (some ⟨B, 0, none⟩)) ∧ w'.cell? ⟨w.heap.size, 0, none⟩ = some (.int .i64 (D : Int)) ∧ w'.cell? ⟨w.heap.size, 1, none⟩ = some (.int .i64 (N : Int)) ∧ w'.cell? ⟨w.heap.size, 2, none⟩ = some (.slice A l.length c))
       (first | exact HK1.out _ (below_step (below_drew (Below.refl _ _)) hb7) | exact HK1.out _ (below_step (below_step (below_drew (Below.refl _ _)) hb7) hb8) | go_keep)
       (first
        | (go_at_call 88; refine (series k (D : Int) (N : Int) ws A4.out hw1.1 hw1.2.1 w.heap.size B g cap _ _ (hall.out _ (List.getElem_mem hlt)) _ (HT.out.below (below_drew (Below.refl _ _)))).mono ?_; rintro e w7 ⟨v7, rfl, hv7, hb7⟩; obtain ⟨A7, c7, rfl, hc7, hr7⟩ := Kd.R_reads hv7)
        | (go_at_call 87; refine (impl_equalSeries.calls k (D : Int) (N : Int) A7 c7 _ (D : Int) (N : Int) A c l b _ hr7 hc7 (Kd.C_below HR.out (below_step (below_drew BB.out) hb7)) HC.out AB.out).mono ?_; rintro e w8 ⟨rfl, hb8⟩))
      have bw : Below W5.heap.size W5 w8 := below_step (below_step (below_drew (Below.refl _ _)) hb7) hb8
      have e0 : w8.cell? ⟨wr.heap.size, 0, none⟩ = some (.slice Av rs[i].1.length cv) := pw_cell_below bw c0
      have HV := zA (Kd.R_below HV.out bw)
      have HL := zA (Kd.R_below HL.out bw)
      have X1 := zA ((bw.block w.heap.size (blk_lt X1.out)).trans X1.out)
      have BB := zA (below_step BB.out bw)
      clear bw c0 c1 y0 y1 y2 hb7 hb8 hr7 hv7 HK1 X5 HT
      cases b with
      | true =>
       rw [if_pos rfl] at H
       have hH := HF.out _ (Option.some.inj H).symm
       injection hH with h9 h10
       subst h9
       subst h10
       go_wp2
       go_ret2
       exact ⟨_, rfl, Kd.R_mono HV.out (fun _ _ => trivial), BB.out⟩
      | false =>
       rw [if_neg (by simp)] at H
       have H := zA H
       go_wp2
       exact ⟨⟨i + 1, hlt, by go_num, H, HL, X1, BB⟩, by simp [intOf]; omega⟩
     ·obtain rfl : i = rs.length := by omega
      have H := H.out
      rw [List.drop_length] at H
      simp only [findR] at H
      have hG := HG.out (Option.some.inj H).symm
      clear H
      have p0 : ((rs.length : Int) < (rs.length : Int)) = False := eq_false (by omega)
      by_cases hN : m = N
      ·subst hN
       have hH := hG.1 (by omega)
       injection hH with h9 h10
       subst h9
       subst h10
       clear hG
       go_wp2
       go_ret2
       exact ⟨.slice none 0 0, rfl, Kd.R_nil _ _ _ _ _, BB.out⟩
      ·obtain ⟨rs', hn, hl', H⟩ := hG.2 (N - (m + 1)) (by omega)
       clear hG
       have hn0 := hn
       have HN := zA hn
       have H := zA H
       clear hn
       have pN : ((m : Int) = (N : Int)) = False := eq_false (by omega)
       obtain ⟨hml, hma⟩ := nextR_len hn0
       have hma := zA (hma (by simp))
       have hmw := zA (nextR_words hn0 hwds.out (by simp))
       go_wp2
       obtain ⟨T, hTe⟩ : ∃ T, T = wr.heap.size := ⟨_, rfl⟩
       have HLT := zA (Kd.R_mono (Kd.R_bound HL.out) (ok' := fun kk => kk < T) (fun _ hk => by rw [hTe]; exact hk.2.2.1))
       have hTl : T ≤ wr.heap.size := Nat.le_of_eq hTe
       clear hTe
       go_loopw [10, 50] (fun s10 s50 w4 => ∃ (i : Nat) (out : List (List Int × (List S27 × Bool))), i ≤ rs.length ∧ s50 = .int .i64 i ∧ T ≤ w4.heap.size ∧ Aside0 (nextR k (D : Int) N ws (rs.drop i) out = some rs') ∧ Aside0 (Kd.R (kRdr (D : Int) (N : Int)) 105 w4 w.heap.size (fun kk => kk < T) (.slice Al rs.length cl) rs) ∧ Aside0 (Kd.R (kRdr (D : Int) (N : Int)) 105 w4 w.heap.size (fun kk => T ≤ kk) s10 out) ∧ Aside0 (w4.heap[w.heap.size]? = some (.cells #[.int .i64 (D : Int), .int .i64 (N : Int), .slice A l.length c] 32 (0, 0))) ∧ Aside0 (Below w.heap.size w w4)) (fun _ s50 _ => rs.length - (intOf s50).toNat)
       case atStart => exact ⟨0, [], Nat.zero_le _, rfl, hTl, HN, HLT, ⟨Kd.R_nil _ _ _ _ _⟩, X1, BB⟩
       case round =>
        clear HL X1 BB HN HLT
        obtain ⟨i, out, hi, rfl, hTw, HN, HL, HO, X1, BB⟩ := hrel
        by_cases hlt : i < rs.length
        ·have hn := HN.out
         rw [List.drop_eq_getElem_cons hlt] at hn
         simp only [nextR] at hn
         obtain ⟨o, hmo, hn⟩ := Option.bind_eq_some_iff.mp hn
         have HMO := zA hmo
         have HN := zA hn
         clear hmo hn
         obtain ⟨g5, c5, e5, hg5, hl5, hc5⟩ := Kd.R_form HL.out (by omega)
         injection e5 with ea _ ec
         subst ea
         subst ec
         obtain ⟨cs, hcl, hM, hcell, hfr⟩ := Kd.R_elem HL.out ([], [], false) (i : Int) (by omega) (by omega)
         rw [Int.toNat_natCast] at hM hcell hfr
         rw [show rs.getD i ([], [], false) = rs[i] from by simp [List.getD_eq_getElem?_getD, hlt]] at hM
         obtain ⟨v, B, g, cap, rfl, hv, hT, hBT, hgT⟩ := rdr_open hM
         obtain ⟨Av, cv, rfl⟩ := Kd.R_slice hv
         have HV := zA hv
         have HT := zA hT
         have x0 := hcell 0 _ rfl
         have x1 := hcell 1 _ rfl
         rw [Nat.add_zero, show (kRdr (D : Int) (N : Int)).sz = 2 from rfl] at x0
         rw [show (kRdr (D : Int) (N : Int)).sz = 2 from rfl] at x1
         clear hv hT hM hcell hfr hcl
         have p1 : (0 ≤ (i : Int)) = True := eq_true (by omega)
         have p2 : ((i : Int) < (rs.length : Int)) = True := eq_true (by omega)
         have p3 : (i < rs.length) = True := eq_true hlt
         have hu105 := Try.underlying105
         go_wp2
         have X5 := zA (blk_new wr (.cells #[.slice Av rs[i].1.length cv, .pointer (some ⟨B, 0, none⟩)] 105))
         have X1 := zA (blk_alloc X1.out (.cells #[.slice Av rs[i].1.length cv, .pointer (some ⟨B, 0, none⟩)] 105))
         have be : Below wr.heap.size wr (wr.alloc (.cells #[.slice Av rs[i].1.length cv, .pointer (some ⟨B, 0, none⟩)] 105)) := below_alloc (Below.refl _ _) _
         have HT := zA (HT.out.below be)
         have HV := zA (Kd.R_mono (Kd.R_below HV.out be) (ok' := fun kk => kk < T) (fun _ hk => hk.1))
         have HL := zA (Kd.R_below HL.out be)
         have HO := zA (Kd.R_mono (Kd.R_below (Kd.R_bound HO.out) be) (ok' := fun kk => T ≤ kk ∧ kk ≠ wr.heap.size) (fun kk hk => ⟨hk.1, Nat.ne_of_lt hk.2.2.1⟩))
         have BB := zA (below_step BB.out be)
         have hsz : wr.heap.size < (wr.alloc (.cells #[.slice Av rs[i].1.length cv, .pointer (some ⟨B, 0, none⟩)] 105)).heap.size := blk_lt X5.out
         clear be x0 x1
         generalize (wr.alloc (.cells #[.slice Av rs[i].1.length cv, .pointer (some ⟨B, 0, none⟩)] 105)) = W5 at X5 X1 HT HV HL HO BB hsz ⊢
         have hBT' : B < T := hBT.1
         have hgT' : g < T := hgT.1
         generalize wr.heap.size = gb at X5 HO hsz hTw ⊢
         rw [Int.toNat_natCast] at HMO
         go_loopw [10, 13] (fun s10 s13 w4 => ∃ (e : Nat) (q : Int) (out' : List (List Int × (List S27 × Bool))), q + e = (D : Int) + 1 ∧ -(D : Int) ≤ q ∧ s13 = .int .i64 q ∧ gb < w4.heap.size ∧ Aside0 (moreR k (D : Int) N ws rs[i] e q out' = some o) ∧ Aside0 (Kd.R (kRdr (D : Int) (N : Int)) 105 w4 w.heap.size (fun kk => kk < T) (.slice (some ⟨g5, 0, none⟩) rs.length cl) rs) ∧ Aside0 (Kd.R (kRdr (D : Int) (N : Int)) 105 w4 w.heap.size (fun kk => T ≤ kk ∧ kk ≠ gb) s10 out') ∧ Aside0 (w4.heap[gb]? = some (.cells #[.slice Av rs[i].1.length cv, .pointer (some ⟨B, 0, none⟩)] 105 (0, 0))) ∧ Aside0 (Kd.R (Kd.int .i64) 2 w4 w.heap.size (fun kk => kk < T) (.slice Av rs[i].1.length cv) rs[i].1) ∧ Aside0 (Tab w4 w.heap.size B g cap (D : Int) (N : Int) rs[i].2.1 rs[i].2.2) ∧ Aside0 (w4.heap[w.heap.size]? = some (.cells #[.int .i64 (D : Int), .int .i64 (N : Int), .slice A l.length c] 32 (0, 0))) ∧ Aside0 (Below w.heap.size w w4)) (fun _ s13 _ => ((D : Int) + 1 - intOf s13).toNat)
         case atStart => exact ⟨2 * D + 1, _, out, by omega, Int.le_refl _, rfl, hsz, HMO, HL, HO, X5, HV, HT, X1, BB⟩
         case round =>
          clear HL X1 BB HO X5 HV HT hsz HMO
          obtain ⟨e, q, out', hqe, hq0, rfl, hsz, HMO, HL, HO, X5, HV, HT, X1, BB⟩ := hrel
          cases e with
          | zero =>
           have hm0 := HMO.out
           simp only [moreR] at hm0
           obtain rfl := Option.some.inj hm0
           have p0 : (q ≤ (D : Int)) = False := eq_false (by omega)
           go_wp2
           first
            | exact ⟨⟨_, _, _, _, _, _, ⟨i + 1, hlt, rfl, by omega, out', HN, ⟨Kd.R_mono HO.out (fun _ hk => hk.1)⟩⟩, rfl, rfl, rfl, rfl, rfl, by go_num⟩, by simp [intOf]; omega⟩
            | (trace_state; fail)
          | succ e =>
           have p0 : (q ≤ (D : Int)) = True := eq_true (by omega)
           have c0 : wr.cell? ⟨gb, 0, none⟩ = some (.slice Av rs[i].1.length cv) := (blk_cell X5.out 0).trans rfl
           have c1 : wr.cell? ⟨gb, 1, none⟩ = some (.pointer (some ⟨B, 0, none⟩)) := (blk_cell X5.out 1).trans rfl
           have hm0 := HMO.out
           simp only [moreR] at hm0
           by_cases hz : q = 0
           ·rw [if_pos (by simp [outR, hz])] at hm0
            subst hz
            go_wp2
            exact ⟨⟨e, 1, out', by omega, by omega, by go_num, hsz, ⟨hm0⟩, HL, HO, X5, HV, HT, X1, BB⟩, by simp [intOf]⟩
           ·have pz : (q = 0) = False := eq_false hz
            obtain ⟨_, hcv, hCV⟩ := Kd.R_reads' HV.out
            have hwl := Kd.C_max hCV
            by_cases ho : outR rs[i].1 q = true
            ·rw [if_pos ho] at hm0
             obtain ⟨hw0, hq⟩ : 0 < rs[i].1.length ∧ rd rs[i].1 ((rs[i].1.length : Int) - 1) = -q := by simpa [outR, hz] using ho
             have pl : (0 ≤ (rs[i].1.length : Int) - 1) = True := eq_true (by omega)
             have pl1 : ((rs[i].1.length : Int) - 1 < (rs[i].1.length : Int)) = True := eq_true (by omega)
             obtain ⟨adv, ev, hxv⟩ := Kd.at_int hCV ((rs[i].1.length : Int) - 1) (by omega) (by omega)
             subst ev
             rw [show ((rs[i].1.length : Int) - 1).toNat = rs[i].1.length - 1 from by omega] at hxv
             have pq : (rd rs[i].1 ((rs[i].1.length : Int) - 1) = -q) = True := eq_true hq
             go_wp2
             exact ⟨⟨e, q + 1, out', by omega, by omega, by go_num, hsz, ⟨hm0⟩, HL, HO, X5, HV, HT, X1, BB⟩, by simp [intOf]; omega⟩
            ·rw [if_neg ho] at hm0
             obtain ⟨p, hp, hm1⟩ := Option.bind_eq_some_iff.mp hm0
             by_cases hpc : 1 ≤ p.length ∧ (rd_L9 p 0).length + 1 ≤ ws.length
             ·rw [if_pos hpc] at hm1
              obtain ⟨x, hx, hm2⟩ := Option.bind_eq_some_iff.mp hm1
              obtain ⟨y, hy, hm3⟩ := Option.bind_eq_some_iff.mp hm2
              clear hm0 hm1 hm2
              by_cases hyl : y.1.length = ws.length
              ·rw [if_pos hyl] at hm3
               have hlo := (moreR_len hm3).1
               rw [List.length_append, List.length_singleton] at hlo
               have hlo2 := (nextR_len HN.out).1
               have HB5 : Aside0 (out'.length + 1 ≤ 100000) := ⟨by omega⟩
               have HP := zA hp
               have HX := zA hx
               have HY := zA hy
               have HM := zA hm3
               clear hp hx hy hm3 hlo hlo2
               have HQ := zA (Kd.R_reads' (R_lit1 (W := wr) (base := w.heap.size) (Kd.int .i64) (e := 2) (ok := fun _ => True) (okp := fun _ => True) (x := q) (cs := [.int .i64 q]) rfl rfl (fun _ hk => hk) trivial (below_size BB.out))).2.2
               refine (Decidable.em (0 < rs[i].1.length)).elim (fun hw0 => ?_) (fun hw0 => ?_)
               have pl : (0 ≤ (rs[i].1.length : Int) - 1) = True := eq_true (by omega)
               have pl1 : ((rs[i].1.length : Int) - 1 < (rs[i].1.length : Int)) = True := eq_true (by omega)
               obtain ⟨adv, ev, hxv⟩ := Kd.at_int hCV ((rs[i].1.length : Int) - 1) (by omega) (by omega)
               rw [ev] at c0
               have EV := zA ev
               clear ev
               rw [show ((rs[i].1.length : Int) - 1).toNat = rs[i].1.length - 1 from by omega] at hxv
               have hq : ¬ rd rs[i].1 ((rs[i].1.length : Int) - 1) = -q := fun hq => ho (by simp [outR, hz, hw0, hq])
               have pq : (rd rs[i].1 ((rs[i].1.length : Int) - 1) = -q) = False := eq_false hq
               go_wp2_with (go_at_call 74; refine (impl_pathOfWord.calls k (D : Int) _ 1 [q] p _ HQ.out (Nat.le_refl _) HP.out).mono ?_; rintro e6 w6 ⟨v6, rfl, hs6, hb6⟩; obtain ⟨A6, c6, rfl⟩ := Kd.S_slice hs6; obtain ⟨adp, Ap, cp, ep, hxp, hlp, hip⟩ := at_L9 (Kd.S_reads' hs6).2.2 0 (by omega) (by omega); subst ep; rw [show adp.add (0 : Int).toNat = adp from by cases adp; rfl] at hxp)
               ·rename_i hq9
                exfalso
                simp [hz, hq] at hq9
               rename_i h91 h92
               clear hxv hCV pl pl1 pq hq h91 h92
               rw [← EV.out] at c0
               rotate_left
               have pl : (0 ≤ (rs[i].1.length : Int) - 1) = False := eq_false (by omega)
               go_wp2_with (go_at_call 74; refine (impl_pathOfWord.calls k (D : Int) _ 1 [q] p _ HQ.out (Nat.le_refl _) HP.out).mono ?_; rintro e6 w6 ⟨v6, rfl, hs6, hb6⟩; obtain ⟨A6, c6, rfl⟩ := Kd.S_slice hs6; obtain ⟨adp, Ap, cp, ep, hxp, hlp, hip⟩ := at_L9 (Kd.S_reads' hs6).2.2 0 (by omega) (by omega); subst ep; rw [show adp.add (0 : Int).toNat = adp from by cases adp; rfl] at hxp)
               clear pl hCV
               all_goals
                have bw : Below wr.heap.size wr w6 := below_step (below_alloc (Below.refl _ _) _) hb6
                have d0 : w6.cell? ⟨gb, 0, none⟩ = some (.slice Av rs[i].1.length cv) := pw_cell_below bw c0
                have d1 : w6.cell? ⟨gb, 1, none⟩ = some (.pointer (some ⟨B, 0, none⟩)) := pw_cell_below bw c1
                have HV := zA (Kd.R_below HV.out bw)
                have HL := zA (Kd.R_below HL.out bw)
                have HOW := zA (fun k hk => Nat.lt_of_lt_of_le (Kd.R_lt HO.out k hk) (below_size bw))
                have HO := zA (Kd.R_below HO.out bw)
                have HT := zA (HT.out.below bw)
                have hsz6 : gb < w6.heap.size := Nat.lt_of_lt_of_le hsz (below_size bw)
                have hT6 : T ≤ w6.heap.size := by omega
                have X1 := zA ((bw.block w.heap.size (blk_lt X1.out)).trans X1.out)
                have X5 := zA ((bw.block gb (blk_lt X5.out)).trans X5.out)
                have BB := zA (below_step BB.out bw)
                have HI := zA hip
                clear bw c0 c1 hs6 hb6 hip HQ HP hxp
                have hwd := hwds.out _ (List.getElem_mem hlt)
                have h1000 : rs[i].1.length ≤ 1000 := by have := hw1.2.2.1; omega
                have HCL := zA (show slices_Clone_int64_int64.f rs[i].1 = some rs[i].1 from if_pos (by omega))
                have hK1 : ∀ W7 : World, Below w6.heap.size w6 W7 → W7.cell? ⟨gb, 0, none⟩ = some (.slice Av rs[i].1.length cv) ∧ W7.cell? ⟨gb, 1, none⟩ = some (.pointer (some ⟨B, 0, none⟩)) := fun W7 hb => ⟨pw_cell_below hb d0, pw_cell_below hb d1⟩
                have HK1 := zA hK1
                clear hK1
                refine wp_region_noPanic ?_
                refine wp_region_held_drew (S := (fun w' => w'.cell? ⟨gb, 0, none⟩ = some (.slice Av rs[i].1.length cv) ∧ w'.cell? ⟨gb, 1, none⟩ = some (.pointer (some ⟨B, 0, none⟩)))) (by kernel_rfl) ?_ (fun hHeld => ?_)
                ·(try dsimp only)
                 exact HK1.out _ (below_drew (Below.refl _ _))
                refine wpAnyH_take (i := 0) (v := ?_) rfl (by kernel_rfl) (by kernel_rfl) (by kernel_rfl) (fun _ _ _ h => h) (Or.inl ⟨by rfl, ?_⟩) (by assumption) ?_
                rotate_left
                ·intro w hSw
                 (try dsimp only at hSw)
                 go_simp
                 try (with_reducible rfl)
                (try simp only [Act.put, List.setIfInBounds_toArray, List.set])
                refine wpAnyH_take (i := 1) (v := ?_) rfl (by kernel_rfl) (by kernel_rfl) (by kernel_rfl) (fun _ _ _ h => h) (Or.inl ⟨by rfl, ?_⟩) (by assumption) ?_
                rotate_left
                ·intro w hSw
                 (try dsimp only at hSw)
                 go_simp
                 try (with_reducible rfl)
                (try simp only [Act.put, List.setIfInBounds_toArray, List.set])
                refine wpAnyH_take (i := 2) (v := ?_) rfl (by kernel_rfl) (by kernel_rfl) (by kernel_rfl) (fun _ _ _ h => h) (Or.inl ⟨by rfl, ?_⟩) (by assumption) ?_
                rotate_left
                ·intro w hSw
                 (try dsimp only at hSw)
                 go_simp
                 try (with_reducible rfl)
                (try simp only [Act.put, List.setIfInBounds_toArray, List.set])
                refine wpAnyH_take (i := 4) (v := ?_) rfl (by kernel_rfl) (by kernel_rfl) (by kernel_rfl) (fun _ _ _ h => h) (Or.inl ⟨by rfl, ?_⟩) (by assumption) ?_
                rotate_left
                ·intro w hSw
                 (try dsimp only at hSw)
                 go_simp
                 try (with_reducible rfl)
                (try simp only [Act.put, List.setIfInBounds_toArray, List.set])
                refine wpAnyH_take (i := 7) (v := ?_) rfl (by kernel_rfl) (by kernel_rfl) (by kernel_rfl) (fun _ _ _ h => h) (Or.inl ⟨by rfl, ?_⟩) (by assumption) ?_
                rotate_left
                ·intro w hSw
                 (try dsimp only at hSw)
                 go_simp
                 try (with_reducible rfl)
                (try simp only [Act.put, List.setIfInBounds_toArray, List.set])
                refine wpAnyH_take (i := 8) (v := ?_) rfl (by kernel_rfl) (by kernel_rfl) (by kernel_rfl) (fun _ _ _ h => h) (Or.inl ⟨by rfl, ?_⟩) (by assumption) ?_
                rotate_left
                ·intro w hSw
                 (try dsimp only at hSw)
                 go_simp
                 try (with_reducible rfl)
                (try simp only [Act.put, List.setIfInBounds_toArray, List.set])
                refine wpAnyH_take (i := 9) (v := ?_) rfl (by kernel_rfl) (by kernel_rfl) (by kernel_rfl) (fun _ _ _ h => h) (Or.inl ⟨by rfl, ?_⟩) (by assumption) ?_
                rotate_left
                ·intro w hSw
                 (try dsimp only at hSw)
                 go_simp
                 try (with_reducible rfl)
                (try simp only [Act.put, List.setIfInBounds_toArray, List.set])
                refine wpAnyH_take (i := 10) (v := ?_) rfl (by kernel_rfl) (by kernel_rfl) (by kernel_rfl) (fun _ _ _ h => h) (Or.inl ⟨by rfl, ?_⟩) (by assumption) ?_
                rotate_left
                ·intro w hSw
                 (try dsimp only at hSw)
                 go_simp
                 try (with_reducible rfl)
                (try simp only [Act.put, List.setIfInBounds_toArray, List.set])
                refine wpAnyH_take (i := 11) (v := ?_) rfl (by kernel_rfl) (by kernel_rfl) (by kernel_rfl) (fun _ _ _ h => h) (Or.inl ⟨by rfl, ?_⟩) (by assumption) ?_
                rotate_left
                ·intro w hSw
                 (try dsimp only at hSw)
                 go_simp
                 try (with_reducible rfl)
                (try simp only [Act.put, List.setIfInBounds_toArray, List.set])
                refine wpAnyH_ready (rs := [3, 5]) (by kernel_rfl) (by simp) ?_
                refine (AllReadyH.cons rfl (fun K hK => ?_) (AllReadyH.cons rfl (fun K hK => ?_) AllReadyH.nil))
                go_simp
                (go_at_call 89; refine (slices_Clone_int64_int64.calls _ _ rs[i].1 rs[i].1 _ (Kd.R_reads' (Kd.R_below HV.out (below_drew (Below.refl _ _)))).2.2 (Kd.R_reads' HV.out).2.1 HCL.out).mono ?_; rintro e7 w7 ⟨v7, rfl, hv7, hb7⟩)
                refine hK.out _ _ ?_ (fun hHeld => ?_)
                ·(try dsimp only)
                 exact HK1.out _ (below_step (below_drew (Below.refl _ _)) hb7)
                clear hK K
                (try simp only [Act.put, List.setIfInBounds_toArray, List.set])
                refine wpAnyH_ready (rs := [5]) (by kernel_rfl) (by simp) ?_
                refine (AllReadyH.cons rfl (fun K hK => ?_) AllReadyH.nil)
                go_simp
                refine hK.out _ _ ?_ (fun hHeld => ?_)
                ·(try dsimp only)
                 exact HK1.out _ (below_alloc (below_step (below_drew (Below.refl _ _)) hb7) _)
                clear hK K
                (try simp only [Act.put, List.setIfInBounds_toArray, List.set])
                have b8 := zA (show Below w6.heap.size w6 (w7.alloc (.cells #[.int .i64 q] 2)) from below_alloc (below_step (below_drew (Below.refl _ _)) hb7) _)
                have hv8 := zA (show Kd.R (Kd.int .i64) 2 (w7.alloc (.cells #[.int .i64 q] 2)) w6.heap.size (fun k => w6.heap.size ≤ k) v7 rs[i].1 from Kd.R_mono (Kd.R_bound (Kd.R_below hv7 (below_alloc (Below.refl _ _) _))) (fun k hk => hk.2.1))
                have hq8 := zA (Kd.R_reads' (R_lit1 (W := w7) (base := w7.heap.size) (Kd.int .i64) (e := 2) (ok := fun _ => True) (okp := fun _ => True) (x := q) (cs := [.int .i64 q]) rfl rfl (fun _ hk => hk) trivial (Nat.le_refl _))).2.2
                generalize (w7.alloc (.cells #[.int .i64 q] 2)) = W8 at b8 hv8 hq8 hHeld ⊢
                clear hv7 hb7
                rotate_left
                go_simp
                refine hK.out _ _ ?_ (fun hHeld => ?_)
                ·(try dsimp only)
                 exact HK1.out _ (below_alloc (below_drew (Below.refl _ _)) _)
                clear hK K
                (try simp only [Act.put, List.setIfInBounds_toArray, List.set])
                refine wpAnyH_ready (rs := [3]) (by kernel_rfl) (by simp) ?_
                refine (AllReadyH.cons rfl (fun K hK => ?_) AllReadyH.nil)
                go_simp
                (go_at_call 89; refine (slices_Clone_int64_int64.calls _ _ rs[i].1 rs[i].1 _ (Kd.R_reads' (Kd.R_below HV.out (below_alloc (below_drew (Below.refl _ _)) _))).2.2 (Kd.R_reads' HV.out).2.1 HCL.out).mono ?_; rintro e7 W8 ⟨v7, rfl, hv7, hb7⟩)
                refine hK.out _ _ ?_ (fun hHeld => ?_)
                ·(try dsimp only)
                 exact HK1.out _ (below_step (below_alloc (below_drew (Below.refl _ _)) _) hb7)
                clear hK K
                (try simp only [Act.put, List.setIfInBounds_toArray, List.set])
                have b8 := zA (show Below w6.heap.size w6 W8 from below_step (below_alloc (below_drew (Below.refl _ _)) _) hb7)
                have hv8 := zA (show Kd.R (Kd.int .i64) 2 W8 w6.heap.size (fun k => w6.heap.size ≤ k) v7 rs[i].1 from Kd.R_lower (Kd.R_mono (Kd.R_bound hv7) (fun k hk => Nat.le_trans (below_size (below_alloc (below_drew (Below.refl _ _)) (.cells #[.int .i64 q] 2))) hk.2.1)) (below_size (below_alloc (below_drew (Below.refl _ _)) (.cells #[.int .i64 q] 2))))
                have hq8 := zA (Kd.C_below (Kd.R_reads' (R_lit1 (W := w6.drew) (base := w6.drew.heap.size) (Kd.int .i64) (e := 2) (ok := fun _ => True) (okp := fun _ => True) (x := q) (cs := [.int .i64 q]) rfl rfl (fun _ hk => hk) trivial (Nat.le_refl _))).2.2 hb7)
                clear hv7 hb7
                all_goals
                 refine wpAnyH_ready (rs := [6]) (by kernel_rfl) (by simp) ?_
                 refine (AllReadyH.cons rfl (fun K hK => ?_) AllReadyH.nil)
                 refine Kd.R_append_rows_step (Kd.int .i64) (w0 := w6) (W := W8) w6.heap.size (by rfl) (.tmp 90) (.tmp 92) 48 2 (.int .i64 0) 8 rfl Try.underlying48 info2 rfl (by decide) (by decide) v7 rs[i].1 [q] _ 1 1 (fun k => w6.heap.size ≤ k) (fun _ => False) rfl rfl hv8.out hq8.out (fun _ _ h => h) (fun _ h => h.elim) (fun k hk => Nat.le_trans (below_size b8.out) hk) b8.out (below_size b8.out) (by omega) ?_
                 intro v9 w9 hv9 hb9 hg9 hat9
                 obtain ⟨A9, c9, rfl⟩ := Kd.R_slice hv9
                 rw [List.length_append, List.length_singleton] at hv9
                 refine hK.out _ _ ?_ (fun hHeld => ?_)
                 ·(try dsimp only)
                  exact HK1.out _ hb9
                 clear hK K
                 (try simp only [Act.put, List.setIfInBounds_toArray, List.set])
                 refine wpAnyH_ready (rs := [12]) (by kernel_rfl) (by simp) ?_
                 refine (AllReadyH.cons rfl (fun K hK => ?_) AllReadyH.nil)
                 go_simp
                 (go_at_call 91; refine (stepSignature k (D : Int) N hw1.2.2.1 ws A4.out hw1.1 hw1.2.1 hw1.2.2.2 Ap cp (rd_L9 p 0) hpc.2 x HX.out _ (Kd.C_below HI.out hb9)).mono ?_; rintro e10 w10 ⟨B10, g10, c10, rfl, ht10, hb10⟩)
                 refine hK.out _ _ ?_ (fun hHeld => ?_)
                 ·(try dsimp only)
                  exact HK1.out _ (below_step hb9 hb10)
                 clear hK K
                 (try simp only [Act.put, List.setIfInBounds_toArray, List.set])
                 refine wpAnyH_ready (rs := [13]) (by kernel_rfl) (by simp) ?_
                 refine (AllReadyH.cons rfl (fun K hK => ?_) AllReadyH.nil)
                 go_simp
                 (go_at_call 90; refine (times k (D : Int) (N : Int) ws A4.out hw1.1 hw1.2.1 hw1.2.2.2 w.heap.size B g cap rs[i].2.1 rs[i].2.2 _ B10 g10 c10 x.1 x.2 y HY.out _ (HT.out.below (below_step hb9 hb10)) ht10).mono ?_; rintro e11 w11 ⟨B11, g11, c11, rfl, ht11, hb11⟩)
                 refine hK.out _ _ ?_ (fun hHeld => ?_)
                 ·(try dsimp only)
                  exact HK1.out _ (below_step (below_step hb9 hb10) hb11)
                 clear hK K
                 (try simp only [Act.put, List.setIfInBounds_toArray, List.set])
                 refine wpAnyH_take (i := 14) (v := ?_) rfl (by kernel_rfl) (by kernel_rfl) (by kernel_rfl) (fun _ _ _ h => h) (Or.inl ⟨by rfl, ?_⟩) (by assumption) ?_
                 rotate_left
                 ·intro w hSw
                  (try dsimp only at hSw)
                  go_simp
                  try (with_reducible rfl)
                 (try simp only [Act.put, List.setIfInBounds_toArray, List.set])
                 refine wpAnyH_ready (rs := [15]) (by kernel_rfl) (by simp) ?_
                 refine (AllReadyH.cons rfl (fun K hK => ?_) AllReadyH.nil)
                 go_simp
                 refine hK.out _ _ ?_ (fun hHeld => ?_)
                 ·(try dsimp only)
                  exact HK1.out _ (below_alloc (below_step (below_step hb9 hb10) hb11) _)
                 clear hK K
                 (try simp only [Act.put, List.setIfInBounds_toArray, List.set])
                 have b11 : Below w6.heap.size w6 w11 := below_step (below_step hb9 hb10) hb11
                 have hs9 := below_size hb9
                 have hs10 := below_size (below_step hb9 hb10)
                 have hs11 := below_size b11
                 have hsw := below_size BB.out
                 refine wpAnyH_ready (rs := [16]) (by kernel_rfl) (by simp) ?_
                 refine (AllReadyH.cons rfl (fun K hK => ?_) AllReadyH.nil)
                 refine Kd.R_append_step (kRdr (D : Int) (N : Int)) (w0 := w) (W := w11) w.heap.size (by rfl) (.tmp 87) (.tmp 102) 106 105 (.agg #[.slice none 0 0, .pointer none]) 32 rfl Try.underlying106 infoRdr rfl (show 0 < (kRdr (D : Int) (N : Int)).sz from Nat.zero_lt_two) (by decide) _ out' (rs[i].1 ++ [q], y) [_, .pointer (some ⟨B11, 0, none⟩)] (fun kk => T ≤ kk ∧ kk ≠ gb) (fun kk => w6.heap.size ≤ kk) rfl rfl (rdr_mk (ok := fun kk => w6.heap.size ≤ kk) (Kd.R_lower (Kd.R_below hv9 (below_step hb10 hb11)) hsw) (ht11.lower (Nat.le_trans hsw hs10)) (Nat.le_trans hs10 ht11.hB) (Nat.le_trans hs10 ht11.hg)) (fun k hk => ⟨⟨Nat.le_trans hT6 hk, fun e => by omega⟩, fun e => by have := HOW.out k e.symm; omega⟩) (fun k hk => ⟨by omega, by omega⟩) (Kd.R_below HO.out b11) (below_step BB.out b11) (by omega) (by have := HB5.out; omega) ?_
                 intro v12 w12 hv12 hb12 hg12 hat12
                 have nG := fun (e : some gb = _) => (HO.out.1 gb e.symm).2 rfl
                 have nT := fun (kk : Nat) (hk : kk < T) (e : some kk = _) => Nat.not_lt.mpr (HO.out.1 kk e.symm).1 hk
                 have z5 := (hg12.block gb (by omega) nG).trans ((b11.block gb hsz6).trans X5.out)
                 refine hK.out _ _ ?_ (fun hHeld => ?_)
                 ·(try dsimp only)
                  exact ⟨(blk_cell z5 0).trans rfl, (blk_cell z5 1).trans rfl⟩
                 clear hK K
                 (try simp only [Act.put, List.setIfInBounds_toArray, List.set])
                 refine wpAnyH_take (i := 17) (v := ?_) rfl (by kernel_rfl) (by kernel_rfl) (by kernel_rfl) (fun _ _ _ h => h) (Or.inl ⟨by rfl, ?_⟩) (by assumption) ?_
                 rotate_left
                 ·intro w hSw
                  (try dsimp only at hSw)
                  go_simp
                  try (with_reducible rfl)
                 (try simp only [Act.put, List.setIfInBounds_toArray, List.set])
                 refine wpAnyH_done (by kernel_rfl) ?_ _
                 refine NoPanic.normal ?_
                 go_wp2
                 have z1 := (hg12.block w.heap.size (by have := blk_lt X1.out; omega) (Kd.R_ne HO.out X1.out (by decide))).trans ((b11.block w.heap.size (blk_lt X1.out)).trans X1.out)
                 have zT := (HT.out.below b11).move (w1 := w12) (fun kk hk => hg12.block kk (by rcases hk with rfl | rfl <;> omega) (nT kk (by rcases hk with rfl | rfl <;> omega)))
                 exact ⟨⟨e, q + 1, out' ++ [(rs[i].1 ++ [q], y)], by omega, by omega, by go_num, by have := below_size hb12; have := hg12.size; omega, HM, ⟨Kd.R_grown (Kd.R_below HL.out b11) hg12 nT⟩, ⟨hv12⟩, ⟨z5⟩, ⟨Kd.R_grown (Kd.R_below HV.out b11) hg12 nT⟩, ⟨zT⟩, ⟨z1⟩, ⟨hb12⟩⟩, by simp [intOf]; omega⟩
              ·rw [if_neg hyl] at hm3
               cases hm3
             ·rw [if_neg hpc] at hm1
              cases hm1
        ·obtain rfl : i = rs.length := by omega
         have hn := HN.out
         rw [List.drop_length] at hn
         simp only [nextR] at hn
         obtain rfl := Option.some.inj hn
         have p0 : ((rs.length : Int) < (rs.length : Int)) = False := eq_false (by omega)
         go_wp2
         exact ⟨⟨m + 1, out, by omega, hl', hma.out, hmw.out, by go_num, H, ⟨Kd.R_mono HO.out (fun _ _ => trivial)⟩, X1, BB⟩, by simp [intOf]; omega⟩
  ·rw [if_neg hws] at h
   exact absurd h (by simp)
end Go.Proofs.Ytcklefgkbddlhaa.Tab
