/- What a call of each Go function named below comes to is what the plain Lean function beside it says. Made by a program of this session out of the print of the translation; Lean checks it. -/
import Derived.Test.YtkbneilobaehkaaPx0
import Derived.Test.YtkbneilobaehkaaPx1
namespace Go.Proofs.Ytkbneilobaehkaa.P
open Go.RowKit Go.Proofs.YtkbneilobaehkaaW.PrintWords Go.Proofs.YtkbneilobaehkaaW.PrintLast Go.Proofs.YtkbneilobaehkaaW.PrintMore
attribute [local go_sem] max2_int min2_int max_two min_two max_three min_three max_four min_four   -- for this text's walks alone
set_option linter.unusedVariables false
set_option linter.unusedSimpArgs false


/-! ### spec_l08Draw: function 85, by hand -/
/-- Elements that are rows of one's own, no two elements of which lead to one block. -/
def spec_l08Draw.sliceS {α : Type} (e : Nat) (d : Kd α) : Kd (List α) where
  sz := 1
  E := e :: d.E
  K := (Kd.slice e d).K
  M := fun w base ok xs cs => ∃ v, cs = [v] ∧ Kd.S d e w base ok v xs
  K_len := (Kd.slice e d).K_len
  K_one := (Kd.slice e d).K_one
  K_below := (Kd.slice e d).K_below
  K_of_M := by
    rintro w base ok x cs ⟨v, rfl, h⟩
    exact (Kd.slice e d).K_of_M (w := w) (base := base) (ok := ok) ⟨v, rfl, Kd.S_R h⟩
  M_mono := by
    rintro w base ok ok' x cs hok ⟨v, rfl, h⟩
    exact ⟨v, rfl, Kd.S_mono h hok⟩
  M_bound := by
    rintro w base ok x cs ⟨v, rfl, h⟩
    exact ⟨v, rfl, Kd.S_bound h⟩
  M_move := by
    rintro w w1 base ok x cs hm ⟨v, rfl, h⟩
    exact ⟨v, rfl, Kd.S_move h hm⟩
  M_lower := by
    rintro w base base' ok x cs hb ⟨v, rfl, h⟩
    exact ⟨v, rfl, Kd.S_lower h hb⟩
/-- A row: what is drawn at each place, or 0. -/
def spec_l08Draw.rowL (s0 : List Int) (kind : Int) (i : Nat) : Nat → Nat → List Int → Int → Int → Option (List Int × Int × Int)
  | 0, _, row, x, y => some (row, x, y)
  | e + 1, j, row, x, y => (spec_l01Next.f s0 x y 5).bind fun b => spec_l08Draw.rowL s0 kind i e (j + 1) (row ++ [if (kind = 0 ∧ j ≤ i) ∨ (kind = 1 ∧ i ≠ j) then 0 else wrap64 (b.1 - 2)]) b.2.1 b.2.2
def spec_l08Draw.tabL (s0 : List Int) (kind : Int) (n : Nat) : Nat → Nat → List (List Int) → Int → Int → Option (List (List Int) × Int × Int)
  | 0, _, tab, x, y => some (tab, x, y)
  | e + 1, i, tab, x, y => (spec_l08Draw.rowL s0 kind i n 0 [] x y).bind fun b => spec_l08Draw.tabL s0 kind n e (i + 1) (tab ++ [b.1]) b.2.1 b.2.2
def spec_l08Draw.outL (s0 : List Int) (kind : Int) (n : Nat) : Nat → List (List (List Int)) → Int → Int → Option (List (List (List Int)) × Int × Int)
  | 0, out, x, y => some (out, x, y)
  | e + 1, out, x, y => (spec_l08Draw.tabL s0 kind n n 0 [] x y).bind fun b => spec_l08Draw.outL s0 kind n e (out ++ [b.1]) b.2.1 b.2.2
/-- The first entries are drawn anew, from a table on. -/
def spec_l08Draw.putL (s0 : List Int) : Nat → Nat → List (List (List Int)) → Int → Int → Option (List (List (List Int)) × Int × Int)
  | 0, _, out, x, y => some (out, x, y)
  | e + 1, a, out, x, y => (spec_l01Pick.f s0 x y [1000, -1000]).bind fun b => if 0 < (rd_L4 out (a : Int)).length ∧ 0 < (rd_L3 (rd_L4 out (a : Int)) 0).length then spec_l08Draw.putL s0 e (a + 1) (out.set a ((rd_L4 out (a : Int)).set 0 ((rd_L3 (rd_L4 out (a : Int)) 0).set 0 b.1))) b.2.1 b.2.2 else none
/-- What the switch makes of the tables. -/
def spec_l08Draw.fin (s0 : List Int) (o : List (List (List Int))) (c x y : Int) : Option (List (List (List Int)) × Int × Int) :=
  if c = 0 then some (o ++ [[[1]]], x, y) else if c = 1 then (if 0 < o.length then some (o.set 0 [[1001]], x, y) else none) else if c = 2 then (if 0 < o.length ∧ 0 < (rd_L4 o 0).length then some (o.set 0 ((rd_L4 o 0).drop 1), x, y) else none) else if c = 3 then spec_l08Draw.putL s0 o.length 0 o x y else some (o, x, y)
/-- The tables drawn. -/
def spec_l08Draw.f (s0_0 : List Int) (s0_1 : Int) (s0_2 : Int) (a1 : Int) : Option (List (List (List Int)) × Int × Int) :=
  (spec_l01Pick.f s0_0 s0_1 s0_2 [1, 2, 2, 3, 3, 4]).bind fun n => if 1 ≤ n.1 ∧ n.1 ≤ 4 ∧ 1 ≤ a1 ∧ a1 ≤ 3 then
    (spec_l01Next.f s0_0 n.2.1 n.2.2 4).bind fun kind => (spec_l08Draw.outL s0_0 kind.1 n.1.toNat a1.toNat [] kind.2.1 kind.2.2).bind fun o => (spec_l01Next.f s0_0 o.2.1 o.2.2 50).bind fun c => spec_l08Draw.fin s0_0 o.1 c.1 c.2.1 c.2.2
  else none
/-- The first entry of a table of a list in deep form: where it lies, and how it is written. -/
theorem spec_l08Draw.deep {W : World} {base go L co : Nat} {ok : Nat → Prop} {ot : List (List (List Int))} (h : Kd.S (spec_l08Draw.sliceS 45 (Kd.slice 2 (Kd.int .i64))) 27 W base ok (.slice (some ⟨go, 0, none⟩) L co) ot) (a : Nat) (ha : a < L) (h1 : 0 < (rd_L4 ot (a : Int)).length) (h2 : 0 < (rd_L3 (rd_L4 ot (a : Int)) 0).length) :
    ∃ g1 c1 g2 c2, base ≤ g1 ∧ base ≤ g2 ∧ W.cell? ⟨go, a, none⟩ = some (.slice (some ⟨g1, 0, none⟩) (rd_L4 ot (a : Int)).length c1) ∧ W.cell? ⟨g1, 0, none⟩ = some (.slice (some ⟨g2, 0, none⟩) (rd_L3 (rd_L4 ot (a : Int)) 0).length c2) ∧ W.frozen? ⟨g2, 0, none⟩ = false ∧ (∃ u, W.cell? ⟨g2, 0, none⟩ = some u) ∧ ∀ b : Int, Kd.S (spec_l08Draw.sliceS 45 (Kd.slice 2 (Kd.int .i64))) 27 (W.setCell ⟨g2, 0, none⟩ (.int .i64 b)) base ok (.slice (some ⟨go, 0, none⟩) L co) (ot.set a ((rd_L4 ot (a : Int)).set 0 ((rd_L3 (rd_L4 ot (a : Int)) 0).set 0 b))) := by
  obtain ⟨oki, cs, hcs, hM, hcell, hoki, hback⟩ := Kd.S_borrow h ([] : List (List Int)) (a : Int) (by omega) (by omega)
  rw [show ot.getD (a : Int).toNat [] = rd_L4 ot (a : Int) from rfl] at hM
  generalize rd_L4 ot (a : Int) = m at hM h1 h2 ⊢
  obtain ⟨v', rfl, hS⟩ := hM
  have hcellv := hcell 0 v' rfl
  obtain ⟨g1, c1, e4, hg3, _, _, _⟩ := Kd.S_form hS h1
  subst e4
  obtain ⟨oki2, cs2, hcs2, hM2, hcell2, hoki2, hback2⟩ := Kd.S_borrow hS ([] : List Int) 0 (Int.le_refl 0) (by omega)
  rw [show m.getD (0 : Int).toNat [] = rd_L3 m 0 from rfl] at hM2
  generalize rd_L3 m 0 = row at hM2 h2 ⊢
  obtain ⟨v'', rfl, hR⟩ := hM2
  have hcellw := hcell2 0 v'' rfl
  obtain ⟨g2, c2, e5, hg5, _, _, _⟩ := Kd.R_form hR h2
  subst e5
  obtain ⟨hx, hf⟩ := Kd.R_celln 0 hR 0 (Int.le_refl 0) (by omega)
  refine ⟨g1, c1, g2, c2, hg3, hg5, ?_, ?_, hf, ⟨_, hx⟩, fun b => ?_⟩
  · rw [show (a : Int).toNat * (spec_l08Draw.sliceS 45 (Kd.slice 2 (Kd.int .i64))).sz + 0 = a from by show (a : Int).toNat * 1 + 0 = _; omega, add_at, Nat.zero_add] at hcellv
    exact hcellv
  · rw [show (0 : Int).toNat * (Kd.slice 2 (Kd.int .i64)).sz + 0 = 0 from rfl, add_at, Nat.zero_add] at hcellw
    exact hcellw
  · have HP := Kd.R_putg hR 0 b
    have hb2 := hback2 (x' := row.set (0 : Int).toNat b) HP.2 (fun k_ hk_ => hR.1 k_ (by rw [← hk_]; rfl)) ⟨_, rfl, HP.1⟩
    have hb1 := hback (x' := m.set (0 : Int).toNat (row.set (0 : Int).toNat b)) HP.2 (fun k_ hk_ => (hoki2 _ (hR.1 k_ (by rw [← hk_]; rfl))).1) ⟨_, rfl, hb2⟩
    exact hb1
set_option maxHeartbeats 16000000 in
set_option maxRecDepth 100000 in
theorem spec_l08Draw.calls (g : Nat) (s0_0 : List Int) (s0_1 : Int) (s0_2 : Int) (a1 : Int) (r1 : List (List (List Int))) (r2 : Int) (r3 : Int) (w0 w : World) (hI : IsS104 w0 w g s0_0 s0_1 s0_2) (hB : Below w0.heap.size w0 w) (h : spec_l08Draw.f s0_0 s0_1 s0_2 a1 = some (r1, r2, r3)) :
    Calls Try.prog 85 #[.pointer (some ⟨g, 0, none⟩), .int .i64 a1] w fun e w' => ∃ v0_ : Value, e = .returned (v0_) ∧ Kd.N (Kd.slice 45 (Kd.slice 2 (Kd.int .i64))) 27 w' w.heap.size (fun k_ => (w.heap.size ≤ k_)) v0_ r1 ∧ IsS104 w0 w' g s0_0 r2 r3 ∧ Below w0.heap.size w0 w' ∧ KeepBut w w' g none := by
  have HG : Aside0 (g < w.heap.size) := ⟨hI.lt⟩
  have HI0 := zA hI
  have HK := zA (KeepBut.refl w g none)
  have HW0 := zA hB.size
  have HB := zA hB
  clear hI hB
  unfold spec_l08Draw.f at h
  obtain ⟨⟨n, x1, y1⟩, A1, h⟩ := Option.bind_eq_some_iff.mp h
  dsimp only at h
  by_cases hgd : 1 ≤ n ∧ n ≤ 4 ∧ 1 ≤ a1 ∧ a1 ≤ 3
  · rw [if_pos hgd] at h
    obtain ⟨N, rfl⟩ := Int.eq_ofNat_of_zero_le (show 0 ≤ n by omega)
    obtain ⟨D, rfl⟩ := Int.eq_ofNat_of_zero_le (show 0 ≤ a1 by omega)
    obtain ⟨⟨kind, x2, y2⟩, A2, h⟩ := Option.bind_eq_some_iff.mp h
    dsimp only at h
    obtain ⟨⟨o, x3, y3⟩, A3, h⟩ := Option.bind_eq_some_iff.mp h
    dsimp only at h
    obtain ⟨⟨c, x4, y4⟩, A4, h⟩ := Option.bind_eq_some_iff.mp h
    dsimp only at h
    rw [Int.toNat_natCast, Int.toNat_natCast] at A3
    have hN : N ≤ 4 := by omega
    have hD : D ≤ 3 := by omega
    have hD1 : 1 ≤ D := by omega
    have A1 := zA A1
    have A2 := zA A2
    have A3 := zA A3
    have A4 := zA A4
    have H := zA h
    clear h hgd
    go_enter Try.func85, Try.ntmps85
    go_wp2_with (first | ((with_reducible refine gate_dst (N := 17) rfl ?_); refine Kd.R_lit (Kd.int .i64) _ 2 ?hg (N := 17) ?hd (xs := ([1, 2, 2, 3, 3, 4] : List Int)) (inner := [.int .i64 (1), .int .i64 (2), .int .i64 (2), .int .i64 (3), .int .i64 (3), .int .i64 (4)]) (ok := fun _ => True) (okp := fun _ => True) ?hr ?hp (fun _ hk => hk) trivial (Below.refl _ _) (Nat.le_refl _) (by simp) ?_; (case hd => rfl); (case hg => rfl); (case hr => first | (go_simp; done) | (go_simp; rfl)); (case hp => exact Reps.one (show Kd.M (Kd.int .i64) _ _ _ (1) [.int .i64 (1)] from rfl) (Reps.one (show Kd.M (Kd.int .i64) _ _ _ (2) [.int .i64 (2)] from rfl) (Reps.one (show Kd.M (Kd.int .i64) _ _ _ (2) [.int .i64 (2)] from rfl) (Reps.one (show Kd.M (Kd.int .i64) _ _ _ (3) [.int .i64 (3)] from rfl) (Reps.one (show Kd.M (Kd.int .i64) _ _ _ (3) [.int .i64 (3)] from rfl) (Reps.one (show Kd.M (Kd.int .i64) _ _ _ (4) [.int .i64 (4)] from rfl) (Reps.none _ _))))))); intro v_ w17 ho_ hb hg_ hnew_; obtain ⟨gl, cl, rfl, hgl, _, _⟩ := Kd.R_form ho_ (by simp); have HGL : Aside0 (gl ≠ g) := ⟨fun e_ => by have := HG.out; have := keep_size HK.out; omega⟩; have HP := zA ho_; clear hg_ hnew_ ho_ hgl; have HI0 := zA (HI0.out.below hb); have HB := zA (below_step HB.out hb); have HK := zA (KeepBut.trans HK.out (KeepBut.of_below hb g none) (.inl rfl)); clear hb) | (go_at_call 57; refine (spec_l01Pick.calls g s0_0 s0_1 s0_2 (some ⟨gl, 0, none⟩) cl [1, 2, 2, 3, 3, 4] (N : Int) x1 y1 w0 _ HI0.out HB.out (Kd.R_reads' HP.out).2.2 (Kd.R_reads' HP.out).2.1 (fun ad_ he_ _ e_ => by injection he_ with he_; subst he_; exact HGL.out e_) A1.out).mono ?_; rintro e_ w18 ⟨rfl, hi, hb, hk⟩; have HI0 := zA hi; have HB := zA hb; have HK := zA (KeepBut.trans HK.out hk (.inl rfl)); clear hi hb hk) | (go_at_call 67; refine (spec_l01Next.calls g s0_0 x1 y1 4 kind x2 y2 w0 _ HI0.out HB.out A2.out).mono ?_; rintro e_ w20 ⟨rfl, hi, hb, hk⟩; have HI0 := zA hi; have HB := zA hb; have HK := zA (KeepBut.trans HK.out hk (.inl rfl)); clear hi hb hk) | ((with_reducible refine gate_dst (N := 21) rfl ?_); refine Kd.S_lit (spec_l08Draw.sliceS 45 (Kd.slice 2 (Kd.int .i64))) _ 27 ?hg (N := 21) ?hd (xs := []) (inner := []) (ok := fun k_ => w.heap.size ≤ k_) (okp := fun _ => False) ?hr (Reps.none _ _) (fun _ hk => hk.elim) ?hf (Below.refl _ _) (Nat.le_refl _) (by simp) ?_; (case hd => rfl); (case hg => rfl); (case hr => first | (go_simp; done) | (go_simp; rfl)); (case hf => exact keep_size HK.out); intro v_ w21 ho_ hb hg_ hnew_; have HO := zA (Kd.S_lower ho_ (keep_size HK.out)); clear hg_ hnew_ ho_; have HI0 := zA (HI0.out.below hb); have HB := zA (below_step HB.out hb); have HK := zA (KeepBut.trans HK.out (KeepBut.of_below hb g none) (.inl rfl)); clear hb))
    go_loopw [7, 8] (fun s7 s8 wr => ∃ (m : Nat) (out : List (List (List Int))) (x y : Int), m ≤ D ∧ Aside0 (out.length = m) ∧ s8 = .int .i64 (m : Int) ∧ Aside0 (spec_l08Draw.outL s0_0 kind N (D - m) out x y = some (o, x3, y3)) ∧ Aside0 (Kd.S (spec_l08Draw.sliceS 45 (Kd.slice 2 (Kd.int .i64))) 27 wr w.heap.size (fun k_ => w.heap.size ≤ k_) s7 out) ∧ Aside0 (IsS104 w0 wr g s0_0 x y) ∧ Aside0 (KeepBut w wr g none) ∧ Aside0 (Below w0.heap.size w0 wr)) (fun _ s8 _ => D - (intOf s8).toNat)
    case atStart => exact ⟨0, [], x2, y2, Nat.zero_le _, ⟨rfl⟩, rfl, A3, HO, HI0, HK, HB⟩
    case round =>
      clear HO HI0 HK HB A3
      obtain ⟨m, out, x, y, hm, hol, rfl, HA, HO, HI0, HK, HB⟩ := hrel
      by_cases hlt : m < D
      · have ha := HA.out
        rw [show D - m = (D - (m + 1)) + 1 by omega] at ha
        simp only [spec_l08Draw.outL] at ha
        obtain ⟨⟨tb, xb, yb⟩, ht, ha⟩ := Option.bind_eq_some_iff.mp ha
        dsimp only at ha
        have HA := zA ha
        have HTA := zA ht
        clear ht ha
        obtain ⟨T, hT⟩ : ∃ T, T = wr.heap.size := ⟨_, rfl⟩
        have HO := zA (Kd.S_mono (Kd.S_bound HO.out) (ok' := fun k_ => w.heap.size ≤ k_ ∧ k_ < T) (fun k_ h_ => ⟨h_.1, by rw [hT]; exact h_.2.2.1⟩))
        have hTw : w.heap.size ≤ T := by rw [hT]; exact keep_size HK.out
        have HTW : Aside0 (T ≤ wr.heap.size) := ⟨Nat.le_of_eq hT⟩
        clear hT
        have p0 : ((m : Int) < (D : Int)) = True := eq_true (by omega)
        go_wp2_with (first | ((with_reducible refine gate_dst (N := 27) rfl ?_); refine Kd.S_lit (Kd.slice 2 (Kd.int .i64)) _ 45 ?hg (N := 27) ?hd (xs := []) (inner := []) (ok := fun k_ => w.heap.size ≤ k_ ∧ T ≤ k_) (okp := fun _ => False) ?hr (Reps.none _ _) (fun _ hk => hk.elim) ?hf (Below.refl _ _) (Nat.le_refl _) (by simp) ?_; (case hd => rfl); (case hg => rfl); (case hr => first | (go_simp; done) | (go_simp; rfl)); (case hf => exact ⟨keep_size HK.out, HTW.out⟩); intro v_ w27 ho_ hb hg_ hnew_; have HTB := zA (Kd.S_lower ho_ (keep_size HK.out)); clear hg_ hnew_ ho_; have HI0 := zA (HI0.out.below hb); have HB := zA (below_step HB.out hb); have HK := zA (KeepBut.trans HK.out (KeepBut.of_below hb g none) (.inl rfl)); have HO := zA (Kd.S_below HO.out hb); have HTW := zA (Nat.le_trans HTW.out hb.size); clear hb))
        go_loopw [9, 10] (fun s9 s10 wr => ∃ (i : Nat) (tab : List (List Int)) (x y : Int), i ≤ N ∧ Aside0 (tab.length = i) ∧ s10 = .int .i64 (i : Int) ∧ Aside0 (T ≤ wr.heap.size) ∧ Aside0 (spec_l08Draw.tabL s0_0 kind N (N - i) i tab x y = some (tb, xb, yb)) ∧ Aside0 (Kd.S (spec_l08Draw.sliceS 45 (Kd.slice 2 (Kd.int .i64))) 27 wr w.heap.size (fun k_ => w.heap.size ≤ k_ ∧ k_ < T) u7 out) ∧ Aside0 (Kd.S (Kd.slice 2 (Kd.int .i64)) 45 wr w.heap.size (fun k_ => w.heap.size ≤ k_ ∧ T ≤ k_) s9 tab) ∧ Aside0 (IsS104 w0 wr g s0_0 x y) ∧ Aside0 (KeepBut w wr g none) ∧ Aside0 (Below w0.heap.size w0 wr)) (fun _ s10 _ => N - (intOf s10).toNat)
        case atStart => exact ⟨0, [], x, y, Nat.zero_le _, ⟨rfl⟩, rfl, HTW, HTA, HO, HTB, HI0, HK, HB⟩
        case round =>
          clear HO HTB HI0 HK HB HTA HTW p0
          obtain ⟨i, tab, x, y, hi_, htl, rfl, HTW, HTA, HO, HTB, HI0, HK, HB⟩ := hrel
          by_cases hlt2 : i < N
          · have ha := HTA.out
            rw [show N - i = (N - (i + 1)) + 1 by omega] at ha
            simp only [spec_l08Draw.tabL] at ha
            obtain ⟨⟨rw_, xr, yr⟩, ht, ha⟩ := Option.bind_eq_some_iff.mp ha
            dsimp only at ha
            have HTA := zA ha
            have HRA := zA ht
            clear ht ha
            obtain ⟨T2, hT⟩ : ∃ T2, T2 = wr.heap.size := ⟨_, rfl⟩
            have HTB := zA (Kd.S_mono (Kd.S_bound HTB.out) (ok' := fun k_ => w.heap.size ≤ k_ ∧ T ≤ k_ ∧ k_ < T2) (fun k_ h_ => ⟨h_.1.1, h_.1.2, by rw [hT]; exact h_.2.2.1⟩))
            have hT2 : T ≤ T2 := by rw [hT]; exact HTW.out
            have HTW : Aside0 (T2 ≤ wr.heap.size) := ⟨Nat.le_of_eq hT⟩
            clear hT
            have p0 : ((i : Int) < (N : Int)) = True := eq_true (by omega)
            go_wp2_with (first | ((with_reducible refine gate_dst (N := 33) rfl ?_); refine Kd.R_lit (Kd.int .i64) _ 2 ?hg (N := 33) ?hd (xs := []) (inner := []) (ok := fun k_ => w.heap.size ≤ k_ ∧ T2 ≤ k_) (okp := fun _ => False) ?hr (Reps.none _ _) (fun _ hk => hk.elim) ?hf (Below.refl _ _) (Nat.le_refl _) (by simp) ?_; (case hd => rfl); (case hg => rfl); (case hr => first | (go_simp; done) | (go_simp; rfl)); (case hf => exact ⟨keep_size HK.out, HTW.out⟩); intro v_ w33 ho_ hb hg_ hnew_; have HRO := zA (Kd.R_lower ho_ (keep_size HK.out)); clear hg_ hnew_ ho_; have HI0 := zA (HI0.out.below hb); have HB := zA (below_step HB.out hb); have HK := zA (KeepBut.trans HK.out (KeepBut.of_below hb g none) (.inl rfl)); have HO := zA (Kd.S_below HO.out hb); have HTB := zA (Kd.S_below HTB.out hb); have HTW := zA (Nat.le_trans HTW.out hb.size); clear hb))
            go_loopw [11, 12] (fun s11 s12 wr => ∃ (j : Nat) (row : List Int) (x y : Int), j ≤ N ∧ Aside0 (row.length = j) ∧ s12 = .int .i64 (j : Int) ∧ Aside0 (T2 ≤ wr.heap.size) ∧ Aside0 (spec_l08Draw.rowL s0_0 kind i (N - j) j row x y = some (rw_, xr, yr)) ∧ Aside0 (Kd.S (spec_l08Draw.sliceS 45 (Kd.slice 2 (Kd.int .i64))) 27 wr w.heap.size (fun k_ => w.heap.size ≤ k_ ∧ k_ < T) u7 out) ∧ Aside0 (Kd.S (Kd.slice 2 (Kd.int .i64)) 45 wr w.heap.size (fun k_ => w.heap.size ≤ k_ ∧ T ≤ k_ ∧ k_ < T2) u9 tab) ∧ Aside0 (Kd.R (Kd.int .i64) 2 wr w.heap.size (fun k_ => w.heap.size ≤ k_ ∧ T2 ≤ k_) s11 row) ∧ Aside0 (IsS104 w0 wr g s0_0 x y) ∧ Aside0 (KeepBut w wr g none) ∧ Aside0 (Below w0.heap.size w0 wr)) (fun _ s12 _ => N - (intOf s12).toNat)
            case atStart => exact ⟨0, [], x, y, Nat.zero_le _, ⟨rfl⟩, rfl, HTW, HRA, HO, HTB, HRO, HI0, HK, HB⟩
            case round =>
              clear HO HTB HRO HI0 HK HB HRA HTW p0
              obtain ⟨j, row, x, y, hj_, hrl, rfl, HTW, HRA, HO, HTB, HRO, HI0, HK, HB⟩ := hrel
              by_cases hlt3 : j < N
              · have ha := HRA.out
                rw [show N - j = (N - (j + 1)) + 1 by omega] at ha
                simp only [spec_l08Draw.rowL] at ha
                obtain ⟨⟨b, xn, yn⟩, ht, ha⟩ := Option.bind_eq_some_iff.mp ha
                dsimp only at ha
                have HNA := zA ht
                clear ht
                have p0 : ((j : Int) < (N : Int)) = True := eq_true (by omega)
                by_cases k0 : kind = 0
                · have q0 : (kind = 0) = True := eq_true k0
                  have q1 : (kind = 1) = False := eq_false (by omega)
                  by_cases ji : j ≤ i
                  · skip
                    have q2 : ((j : Int) ≤ (i : Int)) = True := eq_true (by omega)
                    rw [if_pos (Or.inl ⟨k0, ji⟩)] at ha
                    have HRA := zA ha
                    clear ha
                    clear k0
                    try clear k1
                    try clear ji
                    try clear ij
                    go_wp2_with (first | (go_at_call 67; refine (spec_l01Next.calls g s0_0 x y 5 b xn yn w0 _ HI0.out HB.out HNA.out).mono ?_; rintro e_ w40 ⟨rfl, hi, hb, hk⟩; have HI0 := zA hi; have HB := zA hb; have HK := zA (KeepBut.trans HK.out hk (.inl rfl)); have HO := zA (Kd.S_keep HO.out hk (fun k_ h_ e_ => by have := HG.out; first | (have := h_.1; omega) | omega)); have HTB := zA (Kd.S_keep HTB.out hk (fun k_ h_ e_ => by have := HG.out; first | (have := h_.1; omega) | omega)); have HRO := zA (Kd.R_keep HRO.out hk (fun k_ h_ e_ => by have := HG.out; first | (have := h_.1; omega) | omega)); have HTW := zA (Nat.le_trans HTW.out hk.1); clear hi hb hk) | ((with_reducible refine gate_builtin (b := .append) (xs := #[.tmp 58, .tmp 60]) rfl ?_); at_builtin; refine Kd.R_append (Kd.int .i64) w.heap.size rfl (.tmp 58) (.tmp 60) 45 2 (.int .i64 0) 8 rfl Try.underlying45 info2 rfl (by decide) (by omega) u11 row 0 [.int .i64 0] (fun k_ => w.heap.size ≤ k_ ∧ T2 ≤ k_) (fun k_ => False) rfl rfl rfl (fun _ hk => hk.elim) ?aF (HRO.out) (Below.refl _ _) (keep_size HK.out) (by have := hrl.out; omega) ?_; (case aF => exact fun k_ hk_ => ⟨Nat.le_trans (keep_size HK.out) hk_, Nat.le_trans HTW.out hk_⟩); intro v_ w61 ho_ hb hg hat; have HI0 := zA (HI0.out.grown hg (fun e_ => by have := HG.out; have := (HRO.out.1 g e_.symm).1; omega)); have HB := zA (below_weaken HB.out HW0.out hb); have HK := zA (KeepBut.trans HK.out (KeepBut.of_grown hg g) (Kd.R_base2 HRO.out)); have HO := zA (Kd.S_grown HO.out hg (fun k_ h_ e_ => by have := (HRO.out.1 k_ e_.symm).2; have := h_.2; omega)); have HTB := zA (Kd.S_grown HTB.out hg (fun k_ h_ e_ => by have := (HRO.out.1 k_ e_.symm).2; have := h_.2; omega)); have HTW := zA (Nat.le_trans HTW.out hg.size); have HRO := zA ho_; clear hb hg hat ho_))
                    exact ⟨⟨j + 1, row ++ [0], xn, yn, hlt3, ⟨by rw [List.length_append, hrl.out]; rfl⟩, by go_num, HTW, HRA, HO, HTB, HRO, HI0, HK, HB⟩, by simp [intOf]; omega⟩
                  · skip
                    have q2 : ((j : Int) ≤ (i : Int)) = False := eq_false (by omega)
                    rw [if_neg (by omega)] at ha
                    have HRA := zA ha
                    clear ha
                    clear k0
                    try clear k1
                    try clear ji
                    try clear ij
                    go_wp2_with (first | (go_at_call 67; refine (spec_l01Next.calls g s0_0 x y 5 b xn yn w0 _ HI0.out HB.out HNA.out).mono ?_; rintro e_ w40 ⟨rfl, hi, hb, hk⟩; have HI0 := zA hi; have HB := zA hb; have HK := zA (KeepBut.trans HK.out hk (.inl rfl)); have HO := zA (Kd.S_keep HO.out hk (fun k_ h_ e_ => by have := HG.out; first | (have := h_.1; omega) | omega)); have HTB := zA (Kd.S_keep HTB.out hk (fun k_ h_ e_ => by have := HG.out; first | (have := h_.1; omega) | omega)); have HRO := zA (Kd.R_keep HRO.out hk (fun k_ h_ e_ => by have := HG.out; first | (have := h_.1; omega) | omega)); have HTW := zA (Nat.le_trans HTW.out hk.1); clear hi hb hk) | ((with_reducible refine gate_builtin (b := .append) (xs := #[.tmp 58, .tmp 60]) rfl ?_); at_builtin; refine Kd.R_append (Kd.int .i64) w.heap.size rfl (.tmp 58) (.tmp 60) 45 2 (.int .i64 0) 8 rfl Try.underlying45 info2 rfl (by decide) (by omega) u11 row (wrap64 (b - 2)) [.int .i64 (wrap64 (b - 2))] (fun k_ => w.heap.size ≤ k_ ∧ T2 ≤ k_) (fun k_ => False) rfl rfl rfl (fun _ hk => hk.elim) ?aF (HRO.out) (Below.refl _ _) (keep_size HK.out) (by have := hrl.out; omega) ?_; (case aF => exact fun k_ hk_ => ⟨Nat.le_trans (keep_size HK.out) hk_, Nat.le_trans HTW.out hk_⟩); intro v_ w61 ho_ hb hg hat; have HI0 := zA (HI0.out.grown hg (fun e_ => by have := HG.out; have := (HRO.out.1 g e_.symm).1; omega)); have HB := zA (below_weaken HB.out HW0.out hb); have HK := zA (KeepBut.trans HK.out (KeepBut.of_grown hg g) (Kd.R_base2 HRO.out)); have HO := zA (Kd.S_grown HO.out hg (fun k_ h_ e_ => by have := (HRO.out.1 k_ e_.symm).2; have := h_.2; omega)); have HTB := zA (Kd.S_grown HTB.out hg (fun k_ h_ e_ => by have := (HRO.out.1 k_ e_.symm).2; have := h_.2; omega)); have HTW := zA (Nat.le_trans HTW.out hg.size); have HRO := zA ho_; clear hb hg hat ho_))
                    exact ⟨⟨j + 1, row ++ [(wrap64 (b - 2))], xn, yn, hlt3, ⟨by rw [List.length_append, hrl.out]; rfl⟩, by go_num, HTW, HRA, HO, HTB, HRO, HI0, HK, HB⟩, by simp [intOf]; omega⟩
                · have q0 : (kind = 0) = False := eq_false k0
                  by_cases k1 : kind = 1
                  · have q1 : (kind = 1) = True := eq_true k1
                    by_cases ij : i = j
                    · skip
                      have q2 : ((i : Int) == (j : Int)) = true := beq_iff_eq.mpr (by omega)
                      have q3 : ((i : Int) != (j : Int)) = false := bne_eq_false_iff_eq.mpr (by omega)
                      rw [if_neg (by omega)] at ha
                      have HRA := zA ha
                      clear ha
                      clear k0
                      try clear k1
                      try clear ji
                      try clear ij
                      go_wp2_with (first | (go_at_call 67; refine (spec_l01Next.calls g s0_0 x y 5 b xn yn w0 _ HI0.out HB.out HNA.out).mono ?_; rintro e_ w40 ⟨rfl, hi, hb, hk⟩; have HI0 := zA hi; have HB := zA hb; have HK := zA (KeepBut.trans HK.out hk (.inl rfl)); have HO := zA (Kd.S_keep HO.out hk (fun k_ h_ e_ => by have := HG.out; first | (have := h_.1; omega) | omega)); have HTB := zA (Kd.S_keep HTB.out hk (fun k_ h_ e_ => by have := HG.out; first | (have := h_.1; omega) | omega)); have HRO := zA (Kd.R_keep HRO.out hk (fun k_ h_ e_ => by have := HG.out; first | (have := h_.1; omega) | omega)); have HTW := zA (Nat.le_trans HTW.out hk.1); clear hi hb hk) | ((with_reducible refine gate_builtin (b := .append) (xs := #[.tmp 58, .tmp 60]) rfl ?_); at_builtin; refine Kd.R_append (Kd.int .i64) w.heap.size rfl (.tmp 58) (.tmp 60) 45 2 (.int .i64 0) 8 rfl Try.underlying45 info2 rfl (by decide) (by omega) u11 row (wrap64 (b - 2)) [.int .i64 (wrap64 (b - 2))] (fun k_ => w.heap.size ≤ k_ ∧ T2 ≤ k_) (fun k_ => False) rfl rfl rfl (fun _ hk => hk.elim) ?aF (HRO.out) (Below.refl _ _) (keep_size HK.out) (by have := hrl.out; omega) ?_; (case aF => exact fun k_ hk_ => ⟨Nat.le_trans (keep_size HK.out) hk_, Nat.le_trans HTW.out hk_⟩); intro v_ w61 ho_ hb hg hat; have HI0 := zA (HI0.out.grown hg (fun e_ => by have := HG.out; have := (HRO.out.1 g e_.symm).1; omega)); have HB := zA (below_weaken HB.out HW0.out hb); have HK := zA (KeepBut.trans HK.out (KeepBut.of_grown hg g) (Kd.R_base2 HRO.out)); have HO := zA (Kd.S_grown HO.out hg (fun k_ h_ e_ => by have := (HRO.out.1 k_ e_.symm).2; have := h_.2; omega)); have HTB := zA (Kd.S_grown HTB.out hg (fun k_ h_ e_ => by have := (HRO.out.1 k_ e_.symm).2; have := h_.2; omega)); have HTW := zA (Nat.le_trans HTW.out hg.size); have HRO := zA ho_; clear hb hg hat ho_))
                      exact ⟨⟨j + 1, row ++ [(wrap64 (b - 2))], xn, yn, hlt3, ⟨by rw [List.length_append, hrl.out]; rfl⟩, by go_num, HTW, HRA, HO, HTB, HRO, HI0, HK, HB⟩, by simp [intOf]; omega⟩
                    · skip
                      have q1b : (kind == 1) = true := beq_iff_eq.mpr k1
                      have q2 : ((i : Int) == (j : Int)) = false := beq_eq_false_iff_ne.mpr (by omega)
                      have q3 : ((i : Int) != (j : Int)) = true := bne_iff_ne.mpr (by omega)
                      rw [if_pos (Or.inr ⟨k1, ij⟩)] at ha
                      have HRA := zA ha
                      clear ha
                      clear k0
                      try clear k1
                      try clear ji
                      try clear ij
                      go_wp2_with (first | (go_at_call 67; refine (spec_l01Next.calls g s0_0 x y 5 b xn yn w0 _ HI0.out HB.out HNA.out).mono ?_; rintro e_ w40 ⟨rfl, hi, hb, hk⟩; have HI0 := zA hi; have HB := zA hb; have HK := zA (KeepBut.trans HK.out hk (.inl rfl)); have HO := zA (Kd.S_keep HO.out hk (fun k_ h_ e_ => by have := HG.out; first | (have := h_.1; omega) | omega)); have HTB := zA (Kd.S_keep HTB.out hk (fun k_ h_ e_ => by have := HG.out; first | (have := h_.1; omega) | omega)); have HRO := zA (Kd.R_keep HRO.out hk (fun k_ h_ e_ => by have := HG.out; first | (have := h_.1; omega) | omega)); have HTW := zA (Nat.le_trans HTW.out hk.1); clear hi hb hk) | ((with_reducible refine gate_builtin (b := .append) (xs := #[.tmp 58, .tmp 60]) rfl ?_); at_builtin; refine Kd.R_append (Kd.int .i64) w.heap.size rfl (.tmp 58) (.tmp 60) 45 2 (.int .i64 0) 8 rfl Try.underlying45 info2 rfl (by decide) (by omega) u11 row 0 [.int .i64 0] (fun k_ => w.heap.size ≤ k_ ∧ T2 ≤ k_) (fun k_ => False) rfl rfl rfl (fun _ hk => hk.elim) ?aF (HRO.out) (Below.refl _ _) (keep_size HK.out) (by have := hrl.out; omega) ?_; (case aF => exact fun k_ hk_ => ⟨Nat.le_trans (keep_size HK.out) hk_, Nat.le_trans HTW.out hk_⟩); intro v_ w61 ho_ hb hg hat; have HI0 := zA (HI0.out.grown hg (fun e_ => by have := HG.out; have := (HRO.out.1 g e_.symm).1; omega)); have HB := zA (below_weaken HB.out HW0.out hb); have HK := zA (KeepBut.trans HK.out (KeepBut.of_grown hg g) (Kd.R_base2 HRO.out)); have HO := zA (Kd.S_grown HO.out hg (fun k_ h_ e_ => by have := (HRO.out.1 k_ e_.symm).2; have := h_.2; omega)); have HTB := zA (Kd.S_grown HTB.out hg (fun k_ h_ e_ => by have := (HRO.out.1 k_ e_.symm).2; have := h_.2; omega)); have HTW := zA (Nat.le_trans HTW.out hg.size); have HRO := zA ho_; clear hb hg hat ho_))
                      exact ⟨⟨j + 1, row ++ [0], xn, yn, hlt3, ⟨by rw [List.length_append, hrl.out]; rfl⟩, by go_num, HTW, HRA, HO, HTB, HRO, HI0, HK, HB⟩, by simp [intOf]; omega⟩
                  · skip
                    have q1 : (kind = 1) = False := eq_false k1
                    rw [if_neg (by omega)] at ha
                    have HRA := zA ha
                    clear ha
                    clear k0
                    try clear k1
                    try clear ji
                    try clear ij
                    go_wp2_with (first | (go_at_call 67; refine (spec_l01Next.calls g s0_0 x y 5 b xn yn w0 _ HI0.out HB.out HNA.out).mono ?_; rintro e_ w40 ⟨rfl, hi, hb, hk⟩; have HI0 := zA hi; have HB := zA hb; have HK := zA (KeepBut.trans HK.out hk (.inl rfl)); have HO := zA (Kd.S_keep HO.out hk (fun k_ h_ e_ => by have := HG.out; first | (have := h_.1; omega) | omega)); have HTB := zA (Kd.S_keep HTB.out hk (fun k_ h_ e_ => by have := HG.out; first | (have := h_.1; omega) | omega)); have HRO := zA (Kd.R_keep HRO.out hk (fun k_ h_ e_ => by have := HG.out; first | (have := h_.1; omega) | omega)); have HTW := zA (Nat.le_trans HTW.out hk.1); clear hi hb hk) | ((with_reducible refine gate_builtin (b := .append) (xs := #[.tmp 58, .tmp 60]) rfl ?_); at_builtin; refine Kd.R_append (Kd.int .i64) w.heap.size rfl (.tmp 58) (.tmp 60) 45 2 (.int .i64 0) 8 rfl Try.underlying45 info2 rfl (by decide) (by omega) u11 row (wrap64 (b - 2)) [.int .i64 (wrap64 (b - 2))] (fun k_ => w.heap.size ≤ k_ ∧ T2 ≤ k_) (fun k_ => False) rfl rfl rfl (fun _ hk => hk.elim) ?aF (HRO.out) (Below.refl _ _) (keep_size HK.out) (by have := hrl.out; omega) ?_; (case aF => exact fun k_ hk_ => ⟨Nat.le_trans (keep_size HK.out) hk_, Nat.le_trans HTW.out hk_⟩); intro v_ w61 ho_ hb hg hat; have HI0 := zA (HI0.out.grown hg (fun e_ => by have := HG.out; have := (HRO.out.1 g e_.symm).1; omega)); have HB := zA (below_weaken HB.out HW0.out hb); have HK := zA (KeepBut.trans HK.out (KeepBut.of_grown hg g) (Kd.R_base2 HRO.out)); have HO := zA (Kd.S_grown HO.out hg (fun k_ h_ e_ => by have := (HRO.out.1 k_ e_.symm).2; have := h_.2; omega)); have HTB := zA (Kd.S_grown HTB.out hg (fun k_ h_ e_ => by have := (HRO.out.1 k_ e_.symm).2; have := h_.2; omega)); have HTW := zA (Nat.le_trans HTW.out hg.size); have HRO := zA ho_; clear hb hg hat ho_))
                    exact ⟨⟨j + 1, row ++ [(wrap64 (b - 2))], xn, yn, hlt3, ⟨by rw [List.length_append, hrl.out]; rfl⟩, by go_num, HTW, HRA, HO, HTB, HRO, HI0, HK, HB⟩, by simp [intOf]; omega⟩
              · obtain rfl : j = N := by omega
                have ha := HRA.out
                rw [Nat.sub_self] at ha
                simp only [spec_l08Draw.rowL, Option.some.injEq, Prod.mk.injEq] at ha
                obtain ⟨rfl, rfl, rfl⟩ := ha
                have p0 : ((j : Int) < (j : Int)) = False := eq_false (by omega)
                obtain ⟨Ar, cr, er⟩ := Kd.R_slice HRO.out
                subst er
                go_wp2_with (first | ((with_reducible refine gate_builtin (b := .append) (xs := #[.tmp 62, .tmp 64]) rfl ?_); at_builtin; refine Kd.S_append (Kd.slice 2 (Kd.int .i64)) w.heap.size rfl (.tmp 62) (.tmp 64) 27 45 (.slice none 0 0) 24 rfl Try.underlying27 info45 rfl (by decide) (by omega) u9 tab row [.slice Ar row.length cr] (fun k_ => w.heap.size ≤ k_ ∧ T ≤ k_) (fun k_ => w.heap.size ≤ k_ ∧ T2 ≤ k_) rfl rfl ⟨_, rfl, HRO.out⟩ (fun k_ hk => ⟨⟨hk.1, by omega⟩, fun e_ => by have := ((Kd.S_R HTB.out).1 k_ e_.symm).2.2; have := hk.2; omega⟩) ?aF (Kd.S_mono HTB.out (fun k_ h_ => ⟨⟨h_.1, h_.2.1⟩, fun h2_ => by have := h_.2.2; have := h2_.2; omega⟩)) (Below.refl _ _) (keep_size HK.out) (by have := htl.out; omega) ?_; (case aF => exact fun k_ hk_ => ⟨Nat.le_trans (keep_size HK.out) hk_, by have := HTW.out; omega⟩); intro v_ w65 ho_ hb hg hat; have HI0 := zA (HI0.out.grown hg (fun e_ => by have := HG.out; have := ((Kd.S_R HTB.out).1 g e_.symm).1; omega)); have HB := zA (below_weaken HB.out HW0.out hb); have HK := zA (KeepBut.trans HK.out (KeepBut.of_grown hg g) (Kd.S_base2 HTB.out)); have HO := zA (Kd.S_grown HO.out hg (fun k_ h_ e_ => by have := ((Kd.S_R HTB.out).1 k_ e_.symm).2.1; have := h_.2; omega)); have HTW := zA (Nat.le_trans HTW.out hg.size); have HTB := zA ho_; clear hb hg hat ho_))
                exact ⟨⟨i + 1, tab ++ [row], _, _, hlt2, ⟨by rw [List.length_append, htl.out]; rfl⟩, by go_num, ⟨Nat.le_trans hT2 HTW.out⟩, HTA, HO, HTB, HI0, HK, HB⟩, by simp [intOf]; omega⟩
          · obtain rfl : i = N := by omega
            have ha := HTA.out
            rw [Nat.sub_self] at ha
            simp only [spec_l08Draw.tabL, Option.some.injEq, Prod.mk.injEq] at ha
            obtain ⟨rfl, rfl, rfl⟩ := ha
            have p0 : ((i : Int) < (i : Int)) = False := eq_false (by omega)
            obtain ⟨Ar, cr, er⟩ := Kd.S_slice HTB.out
            subst er
            go_wp2_with (first | ((with_reducible refine gate_builtin (b := .append) (xs := #[.tmp 66, .tmp 68]) rfl ?_); at_builtin; refine Kd.S_append (spec_l08Draw.sliceS 45 (Kd.slice 2 (Kd.int .i64))) w.heap.size rfl (.tmp 66) (.tmp 68) 24 27 (.slice none 0 0) 24 rfl Try.underlying24 info27 rfl (by decide) (by omega) u7 out tab [.slice Ar tab.length cr] (fun k_ => w.heap.size ≤ k_) (fun k_ => w.heap.size ≤ k_ ∧ T ≤ k_) rfl rfl ⟨_, rfl, HTB.out⟩ (fun k_ hk => ⟨hk.1, fun e_ => by have := ((Kd.S_R HO.out).1 k_ e_.symm).2; have := hk.2; omega⟩) ?aF (Kd.S_mono HO.out (fun k_ h_ => ⟨h_.1, fun h2_ => by have := h_.2; have := h2_.2; omega⟩)) (Below.refl _ _) (keep_size HK.out) (by have := hol.out; omega) ?_; (case aF => exact fun k_ hk_ => Nat.le_trans (keep_size HK.out) hk_); intro v_ w69 ho_ hb hg hat; have HI0 := zA (HI0.out.grown hg (fun e_ => by have := HG.out; have := ((Kd.S_R HO.out).1 g e_.symm).1; omega)); have HB := zA (below_weaken HB.out HW0.out hb); have HK := zA (KeepBut.trans HK.out (KeepBut.of_grown hg g) (Kd.S_base2 HO.out)); have HO := zA ho_; clear hb hg hat ho_))
            exact ⟨⟨m + 1, out ++ [tab], _, _, hlt, ⟨by rw [List.length_append, hol.out]; rfl⟩, by go_num, HA, HO, HI0, HK, HB⟩, by simp [intOf]; omega⟩
      · obtain rfl : m = D := by omega
        have ha := HA.out
        rw [Nat.sub_self] at ha
        simp only [spec_l08Draw.outL, Option.some.injEq, Prod.mk.injEq] at ha
        obtain ⟨rfl, rfl, rfl⟩ := ha
        have p0 : ((m : Int) < (m : Int)) = False := eq_false (by omega)

        have HNN : Aside0 (Kd.N (Kd.slice 45 (Kd.slice 2 (Kd.int .i64))) 27 wr w.heap.size (fun k_ => w.heap.size ≤ k_) u7 out) := ⟨Kd.R_N (Kd.R_imp (d := spec_l08Draw.sliceS 45 (Kd.slice 2 (Kd.int .i64))) (d' := Kd.slice 45 (Kd.slice 2 (Kd.int .i64))) rfl (fun w_ base ok x cs hx => by obtain ⟨v, e, h⟩ := hx; exact ⟨v, e, Kd.S_R h⟩) (Kd.S_R HO.out))⟩
        have hfin := H.out
        clear H HA
        unfold spec_l08Draw.fin at hfin
        by_cases c0 : c = 0
        · rw [if_pos c0] at hfin
          simp only [Option.some.injEq, Prod.mk.injEq] at hfin
          obtain ⟨rfl, rfl, rfl⟩ := hfin
          have q0 : (c == 0) = true := beq_iff_eq.mpr c0
          clear c0
          go_wp2_with (first | (go_at_call 67; refine (spec_l01Next.calls g s0_0 x y 50 c x4 y4 w0 _ HI0.out HB.out A4.out).mono ?_; rintro e_ w71 ⟨rfl, hi, hb, hk⟩; have HI0 := zA hi; have HB := zA hb; have HK := zA (KeepBut.trans HK.out hk (.inl rfl)); have HO := zA (Kd.S_keep HO.out hk (fun k_ h_ e_ => by have := HG.out; first | (have := h_.1; omega) | omega)); have HNN := zA (Kd.N_keep HNN.out hk (fun k_ h_ e_ => by have := HG.out; first | (have := h_.1; omega) | omega)); clear hi hb hk; have HWS := zA (keep_size HK.out); have HU7 := zA (Kd.N_lt HNN.out); have HS7 := zA (Nat.le_refl w71.heap.size)) | ((with_reducible refine gate_dst (N := 75) rfl ?_); refine Kd.R_lit (Kd.int .i64) w.heap.size 2 ?hg (N := 75) ?hd (xs := [(1 : Int)]) (inner := [.int .i64 1]) (ok := fun k_ => w71.heap.size ≤ k_) (okp := fun k_ => w71.heap.size ≤ k_) ?hr ?hp (fun _ hk => hk) HS7.out (Below.refl _ _) (keep_size HK.out) (by simp) ?_; (case hd => rfl); (case hg => rfl); (case hr => first | (go_simp; done) | (go_simp; rfl)); (case hp => exact Reps.one (show Kd.M (Kd.int .i64) _ _ _ (1) [.int .i64 1] from rfl) (Reps.none _ _)); intro v_ w75 ho_ hb hg_ hnew_; obtain ⟨A75, c75, rfl⟩ := Kd.R_slice ho_; have HL1 := zA ho_; clear hnew_ ho_; have HI0 := zA (HI0.out.grown hg_ (by simp)); have HB := zA (below_weaken HB.out HW0.out hb); have HK := zA (KeepBut.trans HK.out (KeepBut.of_grown hg_ g) (.inl rfl)); have HS7 := zA (Nat.le_trans HS7.out hg_.size); have HO := zA (Kd.S_grown HO.out hg_ (fun _ _ => by simp)); have HNN := zA (Kd.N_grown HNN.out hg_ (fun _ _ => by simp)); clear hb hg_) | ((with_reducible refine gate_dst (N := 76) rfl ?_); refine Kd.R_lit (Kd.slice 2 (Kd.int .i64)) w.heap.size 45 ?hg (N := 76) ?hd (xs := [[(1 : Int)]]) (inner := [.slice A75 1 c75]) (ok := fun k_ => w71.heap.size ≤ k_) (okp := fun k_ => w71.heap.size ≤ k_) ?hr ?hp (fun _ hk => hk) HS7.out (Below.refl _ _) (keep_size HK.out) (by simp) ?_; (case hd => rfl); (case hg => rfl); (case hr => first | (go_simp; done) | (go_simp; rfl)); (case hp => exact Reps.one (show Kd.M (Kd.slice 2 (Kd.int .i64)) _ _ _ [(1 : Int)] [.slice A75 1 c75] from ⟨_, rfl, HL1.out⟩) (Reps.none _ _)); intro v_ w76 ho_ hb hg_ hnew_; obtain ⟨A76, c76, rfl⟩ := Kd.R_slice ho_; have HL2 := zA ho_; clear hnew_ ho_; have HI0 := zA (HI0.out.grown hg_ (by simp)); have HB := zA (below_weaken HB.out HW0.out hb); have HK := zA (KeepBut.trans HK.out (KeepBut.of_grown hg_ g) (.inl rfl)); have HS7 := zA (Nat.le_trans HS7.out hg_.size); have HO := zA (Kd.S_grown HO.out hg_ (fun _ _ => by simp)); have HNN := zA (Kd.N_grown HNN.out hg_ (fun _ _ => by simp)); clear hb hg_) | ((with_reducible refine gate_builtin (b := .append) (xs := #[.tmp 74, .tmp 77]) rfl ?_); at_builtin; refine Kd.N_append (Kd.slice 45 (Kd.slice 2 (Kd.int .i64))) w.heap.size rfl (.tmp 74) (.tmp 77) 24 27 (.slice none 0 0) 24 rfl Try.underlying24 info27 rfl (by decide) (by omega) u7 out [[(1 : Int)]] [.slice A76 1 c76] (fun k_ => w.heap.size ≤ k_) (fun k_ => w71.heap.size ≤ k_) rfl rfl (Kd.FK_slice_mk (Kd.R_reads' HL2.out).2.1 (Kd.R_F HL2.out)) (fun k_ hk => ⟨Nat.le_trans HWS.out hk, fun e_ => by have := HU7.out k_ e_.symm; omega⟩) ?aF (HNN.out) (Below.refl _ _) (keep_size HK.out) (by have := hol.out; omega) ?_; (case aF => exact fun k_ hk_ => Nat.le_trans (keep_size HK.out) hk_); intro v_ w78 ho_ hb hg hat; have HI0 := zA (HI0.out.grown hg (IsS104.own_neN HI0.out HNN.out (by decide))); have HB := zA (below_weaken HB.out HW0.out hb); have HK := zA (KeepBut.trans HK.out (KeepBut.of_grown hg g) (Kd.N_base2 HNN.out)); have HNN := zA ho_; clear hb hg hat ho_))
          go_ret
          exact ⟨_, rfl, HNN.out, HI0.out, HB.out, HK.out⟩
        · rw [if_neg c0] at hfin
          have q0 : (c == 0) = false := beq_eq_false_iff_ne.mpr c0
          by_cases c1 : c = 1
          · rw [if_pos c1] at hfin
            by_cases hz : 0 < out.length
            · rw [if_pos hz] at hfin
              simp only [Option.some.injEq, Prod.mk.injEq] at hfin
              obtain ⟨rfl, rfl, rfl⟩ := hfin
              have q1 : (c == 1) = true := beq_iff_eq.mpr c1
              clear c0 c1
              obtain ⟨go, co, eo, hgo, hgo2, _⟩ := Kd.R_form (Kd.S_R HO.out) hz
              subst eo
              have pz : (0 < (out.length : Int)) = True := eq_true (by omega)
              have HZ := zA hz
              go_wp2_with (first | (go_at_call 67; refine (spec_l01Next.calls g s0_0 x y 50 c x4 y4 w0 _ HI0.out HB.out A4.out).mono ?_; rintro e_ w71 ⟨rfl, hi, hb, hk⟩; have HI0 := zA hi; have HB := zA hb; have HK := zA (KeepBut.trans HK.out hk (.inl rfl)); have HO := zA (Kd.S_keep HO.out hk (fun k_ h_ e_ => by have := HG.out; first | (have := h_.1; omega) | omega)); have HNN := zA (Kd.N_keep HNN.out hk (fun k_ h_ e_ => by have := HG.out; first | (have := h_.1; omega) | omega)); clear hi hb hk; have HWS := zA (keep_size HK.out); have HU7 := zA (Kd.N_lt HNN.out); have HS7 := zA (Nat.le_refl w71.heap.size)) | ((with_reducible refine gate_dst (N := 82) rfl ?_); refine Kd.R_lit (Kd.int .i64) w.heap.size 2 ?hg (N := 82) ?hd (xs := [(1001 : Int)]) (inner := [.int .i64 1001]) (ok := fun k_ => w71.heap.size ≤ k_) (okp := fun k_ => w71.heap.size ≤ k_) ?hr ?hp (fun _ hk => hk) HS7.out (Below.refl _ _) (keep_size HK.out) (by simp) ?_; (case hd => rfl); (case hg => rfl); (case hr => first | (go_simp; done) | (go_simp; rfl)); (case hp => exact Reps.one (show Kd.M (Kd.int .i64) _ _ _ (1001) [.int .i64 1001] from rfl) (Reps.none _ _)); intro v_ w75 ho_ hb hg_ hnew_; obtain ⟨A75, c75, rfl⟩ := Kd.R_slice ho_; have HL1 := zA ho_; clear hnew_ ho_; have HI0 := zA (HI0.out.grown hg_ (by simp)); have HB := zA (below_weaken HB.out HW0.out hb); have HK := zA (KeepBut.trans HK.out (KeepBut.of_grown hg_ g) (.inl rfl)); have HS7 := zA (Nat.le_trans HS7.out hg_.size); have HO := zA (Kd.S_grown HO.out hg_ (fun _ _ => by simp)); have HNN := zA (Kd.N_grown HNN.out hg_ (fun _ _ => by simp)); clear hb hg_) | ((with_reducible refine gate_dst (N := 83) rfl ?_); refine Kd.R_lit (Kd.slice 2 (Kd.int .i64)) w.heap.size 45 ?hg (N := 83) ?hd (xs := [[(1001 : Int)]]) (inner := [.slice A75 1 c75]) (ok := fun k_ => w71.heap.size ≤ k_) (okp := fun k_ => w71.heap.size ≤ k_) ?hr ?hp (fun _ hk => hk) HS7.out (Below.refl _ _) (keep_size HK.out) (by simp) ?_; (case hd => rfl); (case hg => rfl); (case hr => first | (go_simp; done) | (go_simp; rfl)); (case hp => exact Reps.one (show Kd.M (Kd.slice 2 (Kd.int .i64)) _ _ _ [(1001 : Int)] [.slice A75 1 c75] from ⟨_, rfl, HL1.out⟩) (Reps.none _ _)); intro v_ w76 ho_ hb hg_ hnew_; obtain ⟨A76, c76, rfl⟩ := Kd.R_slice ho_; have HL2 := zA ho_; clear hnew_ ho_; have HI0 := zA (HI0.out.grown hg_ (by simp)); have HB := zA (below_weaken HB.out HW0.out hb); have HK := zA (KeepBut.trans HK.out (KeepBut.of_grown hg_ g) (.inl rfl)); have HS7 := zA (Nat.le_trans HS7.out hg_.size); have HO := zA (Kd.S_grown HO.out hg_ (fun _ _ => by simp)); have HNN := zA (Kd.N_grown HNN.out hg_ (fun _ _ => by simp)); clear hb hg_) | ((with_reducible refine gate_store (t := 27) (p := 84) rfl ?_); obtain ⟨cN, hcN, _, hccN⟩ := Kd.N_get HNN.out [] 0 (Int.le_refl 0) (by have := HZ.out; omega); refine Kd.N_store (Kd.slice 45 (Kd.slice 2 (Kd.int .i64))) w.heap.size rfl rfl 27 (.tmp 84) (.tmp 83) rfl 27 (o' := 0) 0 0 out [[(1001 : Int)]] (.slice A76 1 c76) [.slice A76 1 c76] cN (fun k_ => w.heap.size ≤ k_) (fun k_ => w71.heap.size ≤ k_) rfl rfl rfl rfl (by kernel_rfl) (fun q_ hq_ => by rw [List.mem_singleton.1 hq_]; first | done | rfl) HNN.out (Int.le_refl 0) (by have := HZ.out; omega) hcN (fun j_ u_ hj_ => by have h9_ := hccN j_ u_ hj_; rw [add_at, Nat.zero_add] at h9_; first | done | exact h9_) (Nat.le_refl 1) ?hM (fun k_ hk => ⟨Nat.le_trans HWS.out hk, fun e_ => by have := HU7.out go rfl; omega⟩) (Below.refl _ _) ?_; (case hM => have e9_ : List.take 0 cN ++ [(.slice A76 1 c76 : Value)] ++ List.drop (0 + [(.slice A76 1 c76 : Value)].length) cN = [.slice A76 1 c76] := (by rw [List.take_zero, show 0 + [(.slice A76 1 c76 : Value)].length = 1 from rfl, List.drop_of_length_le (show cN.length ≤ 1 from Nat.le_of_eq hcN)]; first | done | rfl); rw [e9_]; first | done | exact (Kd.FK_slice_mk (Kd.R_reads' HL2.out).2.1 (Kd.R_F HL2.out))); intro w85 ho_ hb hg; have HI0 := zA (HI0.out.grown hg (IsS104.own_neN HI0.out HNN.out (by decide))); have HB := zA (below_weaken HB.out HW0.out hb); have HK := zA (KeepBut.trans HK.out (KeepBut.of_grown hg g) (Kd.N_base2 HNN.out)); have HNN := zA ho_; clear hb hg ho_))
              go_ret
              exact ⟨_, rfl, HNN.out, HI0.out, HB.out, HK.out⟩
            · rw [if_neg hz] at hfin
              cases hfin
          · rw [if_neg c1] at hfin
            have q1 : (c == 1) = false := beq_eq_false_iff_ne.mpr c1
            by_cases c2 : c = 2
            · rw [if_pos c2] at hfin
              by_cases hz2 : 0 < out.length ∧ 0 < (rd_L4 out 0).length
              · rw [if_pos hz2] at hfin
                simp only [Option.some.injEq, Prod.mk.injEq] at hfin
                obtain ⟨rfl, rfl, rfl⟩ := hfin
                have q2 : (c == 2) = true := beq_iff_eq.mpr c2
                have hz := hz2.1
                have HZ2 := zA hz2.2
                have pz2 : ((1 : Int) ≤ ((rd_L4 out 0).length : Int)) = True := eq_true (by have := hz2.2; omega)
                clear c0 c1 c2 hz2
                obtain ⟨go, co, eo, hgo, hgo2, _⟩ := Kd.R_form (Kd.S_R HO.out) hz
                subst eo
                have pz : (0 < (out.length : Int)) = True := eq_true (by omega)
                have HZ := zA hz
                go_wp2_with (first | (go_at_call 67; refine (spec_l01Next.calls g s0_0 x y 50 c x4 y4 w0 _ HI0.out HB.out A4.out).mono ?_; rintro e_ w71 ⟨rfl, hi, hb, hk⟩; have HI0 := zA hi; have HB := zA hb; have HK := zA (KeepBut.trans HK.out hk (.inl rfl)); have HO := zA (Kd.S_keep HO.out hk (fun k_ h_ e_ => by have := HG.out; first | (have := h_.1; omega) | omega)); have HNN := zA (Kd.N_keep HNN.out hk (fun k_ h_ e_ => by have := HG.out; first | (have := h_.1; omega) | omega)); clear hi hb hk; have HWS := zA (keep_size HK.out); have HU7 := zA (Kd.N_lt HNN.out); have HS7 := zA (Nat.le_refl w71.heap.size); obtain ⟨cN, hcN, hMe, hccN⟩ := Kd.N_get HNN.out [] 0 (Int.le_refl 0) (by have := HZ.out; omega); obtain ⟨At, ct, rfl, htc, hF⟩ := Kd.FK_slice_open hMe; obtain ⟨at_, ca_, rfl, _⟩ := Kd.F_get hF [] 0 (Int.le_refl 0) (by have := HZ2.out; exact Int.ofNat_lt.mpr this); have hc9 := hccN 0 _ rfl; rw [add_at, Nat.zero_add] at hc9; replace hc9 : w71.cell? ⟨go, 0, none⟩ = some (.slice (some at_) (rd_L4 out 0).length ct) := hc9; have HF := zA (show Kd.F (Kd.slice 2 (Kd.int .i64)) w71 (fun k_ => w.heap.size ≤ k_ ∧ some k_ ≠ (Value.slice (some ⟨go, 0, none⟩) out.length co).ownBlock) (some at_) (rd_L4 out 0).length (rd_L4 out 0) from hF); have HTC := zA (show (rd_L4 out 0).length ≤ ct from htc); replace hccN : ∀ (j_ : Nat) (u_ : Value), [(.slice (some at_) (rd_L4 out 0).length ct : Value)][j_]? = some u_ → w71.cell? ((⟨go, 0, none⟩ : Addr).add ((0 : Int).toNat * (Kd.slice 45 (Kd.slice 2 (Kd.int .i64))).sz + j_)) = some u_ := hccN; replace hcN : [(.slice (some at_) (rd_L4 out 0).length ct : Value)].length = (Kd.slice 45 (Kd.slice 2 (Kd.int .i64))).sz := hcN; clear hMe hF htc; by_cases hct : ct = 1; subst hct; rotate_left; have HCT := zA hct; have hct9 : (ct = 1) = False := eq_false hct; clear hct; rotate_left) | ((with_reducible refine gate_store (t := 27) (p := 92) rfl ?_); refine Kd.N_store (Kd.slice 45 (Kd.slice 2 (Kd.int .i64))) w.heap.size rfl rfl 27 (.tmp 92) (.tmp 91) rfl 27 (o' := 0) 0 0 out ((rd_L4 out 0).drop 1) (.slice (some at_) ((rd_L4 out 0).length - 1) 0) [.slice (some at_) ((rd_L4 out 0).length - 1) 0] [(.slice (some at_) (rd_L4 out 0).length 1 : Value)] (fun k_ => w.heap.size ≤ k_) (fun k_ => w.heap.size ≤ k_ ∧ some k_ ≠ (Value.slice (some ⟨go, 0, none⟩) out.length co).ownBlock) rfl rfl rfl rfl (by kernel_rfl) (fun q_ hq_ => by rw [List.mem_singleton.1 hq_]; first | done | rfl) HNN.out (Int.le_refl 0) (by have := HZ.out; omega) hcN (fun j_ u_ hj_ => by have h9_ := hccN j_ u_ hj_; rw [add_at, Nat.zero_add] at h9_; first | done | exact h9_) (Nat.le_refl 1) ?hM (fun k_ hk => ⟨hk.1, fun e_ => hk.2 (by rw [e_]; rfl)⟩) (Below.refl _ _) ?_; (case hM => have e9_ : List.take 0 [(.slice (some at_) (rd_L4 out 0).length 1 : Value)] ++ [(.slice (some at_) ((rd_L4 out 0).length - 1) 0 : Value)] ++ List.drop (0 + [(.slice (some at_) ((rd_L4 out 0).length - 1) 0 : Value)].length) [(.slice (some at_) (rd_L4 out 0).length 1 : Value)] = [.slice (some at_) ((rd_L4 out 0).length - 1) 0] := (by rw [List.take_zero, show 0 + [(.slice (some at_) ((rd_L4 out 0).length - 1) 0 : Value)].length = 1 from rfl, List.drop_of_length_le (show [(.slice (some at_) (rd_L4 out 0).length 1 : Value)].length ≤ 1 from Nat.le_of_eq hcN)]; first | done | rfl); rw [e9_]; first | done | exact (by have e8_ : Kd.FK (Kd.slice 45 (Kd.slice 2 (Kd.int .i64))) w71 (fun k_ => w.heap.size ≤ k_ ∧ some k_ ≠ (Value.slice (some ⟨go, 0, none⟩) out.length co).ownBlock) ((rd_L4 out 0).drop 1) [.slice (some at_) ((rd_L4 out 0).drop 1).length 0] := Kd.FK_slice_mk (by rw [List.length_drop]; have := HTC.out; omega) (fun W_ hW_ => (by have h7_ := Kd.C_drop (HF.out W_ hW_) (m := 1) HZ2.out HTC.out; rw [if_pos rfl] at h7_; exact h7_)); rw [List.length_drop] at e8_; exact e8_)); intro w93 ho_ hb hg; have HI0 := zA (HI0.out.grown hg (IsS104.own_neN HI0.out HNN.out (by decide))); have HB := zA (below_weaken HB.out HW0.out hb); have HK := zA (KeepBut.trans HK.out (KeepBut.of_grown hg g) (Kd.N_base2 HNN.out)); have HNN := zA ho_; clear hb hg ho_) | ((with_reducible refine gate_store (t := 27) (p := 92) rfl ?_); refine Kd.N_store (Kd.slice 45 (Kd.slice 2 (Kd.int .i64))) w.heap.size rfl rfl 27 (.tmp 92) (.tmp 91) rfl 27 (o' := 0) 0 0 out ((rd_L4 out 0).drop 1) (.slice (some (at_.add 1)) ((rd_L4 out 0).length - 1) (ct - 1)) [.slice (some (at_.add 1)) ((rd_L4 out 0).length - 1) (ct - 1)] [(.slice (some at_) (rd_L4 out 0).length ct : Value)] (fun k_ => w.heap.size ≤ k_) (fun k_ => w.heap.size ≤ k_ ∧ some k_ ≠ (Value.slice (some ⟨go, 0, none⟩) out.length co).ownBlock) rfl rfl rfl rfl (by kernel_rfl) (fun q_ hq_ => by rw [List.mem_singleton.1 hq_]; first | done | rfl) HNN.out (Int.le_refl 0) (by have := HZ.out; omega) hcN (fun j_ u_ hj_ => by have h9_ := hccN j_ u_ hj_; rw [add_at, Nat.zero_add] at h9_; first | done | exact h9_) (Nat.le_refl 1) ?hM (fun k_ hk => ⟨hk.1, fun e_ => hk.2 (by rw [e_]; rfl)⟩) (Below.refl _ _) ?_; (case hM => have e9_ : List.take 0 [(.slice (some at_) (rd_L4 out 0).length ct : Value)] ++ [(.slice (some (at_.add 1)) ((rd_L4 out 0).length - 1) (ct - 1) : Value)] ++ List.drop (0 + [(.slice (some (at_.add 1)) ((rd_L4 out 0).length - 1) (ct - 1) : Value)].length) [(.slice (some at_) (rd_L4 out 0).length ct : Value)] = [.slice (some (at_.add 1)) ((rd_L4 out 0).length - 1) (ct - 1)] := (by rw [List.take_zero, show 0 + [(.slice (some (at_.add 1)) ((rd_L4 out 0).length - 1) (ct - 1) : Value)].length = 1 from rfl, List.drop_of_length_le (show [(.slice (some at_) (rd_L4 out 0).length ct : Value)].length ≤ 1 from Nat.le_of_eq hcN)]; first | done | rfl); rw [e9_]; first | done | exact (by have e8_ : Kd.FK (Kd.slice 45 (Kd.slice 2 (Kd.int .i64))) w71 (fun k_ => w.heap.size ≤ k_ ∧ some k_ ≠ (Value.slice (some ⟨go, 0, none⟩) out.length co).ownBlock) ((rd_L4 out 0).drop 1) [.slice (some (at_.add 1)) ((rd_L4 out 0).drop 1).length (ct - 1)] := Kd.FK_slice_mk (by rw [List.length_drop]; have := HTC.out; omega) (fun W_ hW_ => (by have h7_ := Kd.C_drop (HF.out W_ hW_) (m := 1) HZ2.out HTC.out; rw [if_neg HCT.out] at h7_; exact h7_)); rw [List.length_drop] at e8_; exact e8_)); intro w93 ho_ hb hg; have HI0 := zA (HI0.out.grown hg (IsS104.own_neN HI0.out HNN.out (by decide))); have HB := zA (below_weaken HB.out HW0.out hb); have HK := zA (KeepBut.trans HK.out (KeepBut.of_grown hg g) (Kd.N_base2 HNN.out)); have HNN := zA ho_; clear hb hg ho_))
                all_goals go_ret
                all_goals exact ⟨_, rfl, HNN.out, HI0.out, HB.out, HK.out⟩
              · rw [if_neg hz2] at hfin
                cases hfin
            · rw [if_neg c2] at hfin
              have q2 : (c == 2) = false := beq_eq_false_iff_ne.mpr c2
              by_cases c3 : c = 3
              · rw [if_pos c3] at hfin
                have q3 : (c == 3) = true := beq_iff_eq.mpr c3
                have hz : 0 < out.length := by have := hol.out; omega
                obtain ⟨go, co, eo, hgo, hgo2, _⟩ := Kd.R_form (Kd.S_R HO.out) hz
                obtain ⟨Lq, hLq⟩ : ∃ Lq, out.length = Lq := ⟨_, rfl⟩
                rw [hLq] at eo hfin
                subst eo
                have HLq : Aside0 (out.length = Lq) := ⟨hLq⟩
                have hL3 : Lq ≤ 3 := by have := hol.out; omega
                have HF3 := zA hfin
                clear c0 c1 c2 c3 hz hLq hfin
                go_wp2_with (first | (go_at_call 67; refine (spec_l01Next.calls g s0_0 x y 50 c x4 y4 w0 _ HI0.out HB.out A4.out).mono ?_; rintro e_ w71 ⟨rfl, hi, hb, hk⟩; have HI0 := zA hi; have HB := zA hb; have HK := zA (KeepBut.trans HK.out hk (.inl rfl)); have HO := zA (Kd.S_keep HO.out hk (fun k_ h_ e_ => by have := HG.out; first | (have := h_.1; omega) | omega)); have HNN := zA (Kd.N_keep HNN.out hk (fun k_ h_ e_ => by have := HG.out; first | (have := h_.1; omega) | omega)); clear hi hb hk; have HWS := zA (keep_size HK.out); have HU7 := zA (Kd.N_lt HNN.out); have HS7 := zA (Nat.le_refl w71.heap.size)))
                go_loopw [14] (fun s14 wr => ∃ (a : Nat) (ot : List (List (List Int))) (x y : Int), a ≤ Lq ∧ Aside0 (ot.length = Lq) ∧ s14 = .int .i64 (a : Int) ∧ Aside0 (spec_l08Draw.putL s0_0 (Lq - a) a ot x y = some (r1, r2, r3)) ∧ Aside0 (Kd.S (spec_l08Draw.sliceS 45 (Kd.slice 2 (Kd.int .i64))) 27 wr w.heap.size (fun k_ => w.heap.size ≤ k_) (.slice (some ⟨go, 0, none⟩) Lq co) ot) ∧ Aside0 (IsS104 w0 wr g s0_0 x y) ∧ Aside0 (KeepBut w wr g none) ∧ Aside0 (Below w0.heap.size w0 wr)) (fun s14 _ => Lq - (intOf s14).toNat)
                case atStart => exact ⟨0, out, x4, y4, Nat.zero_le _, HLq, rfl, HF3, HO, HI0, HK, HB⟩
                case round =>
                  clear HO HI0 HK HB HF3 HLq HNN HU7 HS7 HWS
                  obtain ⟨a, ot, x, y, ha_, HLq, rfl, HF3, HO, HI0, HK, HB⟩ := hrel
                  by_cases hlt : a < Lq
                  · have ha := HF3.out
                    rw [show Lq - a = (Lq - (a + 1)) + 1 by omega] at ha
                    simp only [spec_l08Draw.putL] at ha
                    obtain ⟨⟨b, xn, yn⟩, ht, ha⟩ := Option.bind_eq_some_iff.mp ha
                    dsimp only at ha
                    by_cases hh : 0 < (rd_L4 ot (a : Int)).length ∧ 0 < (rd_L3 (rd_L4 ot (a : Int)) 0).length
                    · rw [if_pos hh] at ha
                      have HF3 := zA ha
                      have HNA := zA ht
                      have HH := zA hh
                      obtain ⟨g1, d1, g2, d2, hb1_, hb2_, e0, e1, hf2, ⟨u2, hu2⟩, hput⟩ := spec_l08Draw.deep HO.out a hlt hh.1 hh.2
                      have HGO : Aside0 (w.heap.size ≤ go) := ⟨hgo⟩
                      have HG1 : Aside0 (w.heap.size ≤ g1) := ⟨hb1_⟩
                      have HG2 : Aside0 (w.heap.size ≤ g2) := ⟨hb2_⟩
                      have p0 : ((a : Int) < (Lq : Int)) = True := eq_true (by omega)
                      have p1 : (0 ≤ (a : Int)) = True := eq_true (by omega)
                      have p2 : ((0 : Int) < ((rd_L4 ot (a : Int)).length : Int)) = True := eq_true (by omega)
                      have p3 : ((0 : Int) < ((rd_L3 (rd_L4 ot (a : Int)) 0).length : Int)) = True := eq_true (by omega)
                      have p4 : (0 < (rd_L4 ot (a : Int)).length) = True := eq_true hh.1
                      have p5 : (0 < (rd_L3 (rd_L4 ot (a : Int)) 0).length) = True := eq_true hh.2
                      clear hput hf2 hu2 hh ha ht hb1_ hb2_
                      go_wp2_with (first | ((with_reducible refine gate_dst (N := 109) rfl ?_); refine Kd.R_lit (Kd.int .i64) _ 2 ?hg (N := 109) ?hd (xs := ([1000, -1000] : List Int)) (inner := [.int .i64 (1000), .int .i64 (-1000)]) (ok := fun _ => True) (okp := fun _ => True) ?hr ?hp (fun _ hk => hk) trivial (Below.refl _ _) (Nat.le_refl _) (by simp) ?_; (case hd => rfl); (case hg => rfl); (case hr => first | (go_simp; done) | (go_simp; rfl)); (case hp => exact Reps.one (show Kd.M (Kd.int .i64) _ _ _ (1000) [.int .i64 (1000)] from rfl) (Reps.one (show Kd.M (Kd.int .i64) _ _ _ (-1000) [.int .i64 (-1000)] from rfl) (Reps.none _ _))); intro v_ w109 ho_ hb hg_ hnew_; obtain ⟨gl, cl, rfl, hgl, _, _⟩ := Kd.R_form ho_ (by simp); have HGL : Aside0 (gl ≠ g) := ⟨fun e_ => by have := HG.out; have := keep_size HK.out; omega⟩; have HP := zA ho_; clear hg_ hnew_ ho_ hgl; have HI0 := zA (HI0.out.below hb); have HB := zA (below_step HB.out hb); have HK := zA (KeepBut.trans HK.out (KeepBut.of_below hb g none) (.inl rfl)); have HO := zA (Kd.S_below HO.out hb); have e0 := pw_cell_below hb e0; have e1 := pw_cell_below hb e1; clear hb) | (go_at_call 57; refine (spec_l01Pick.calls g s0_0 x y (some ⟨gl, 0, none⟩) cl [1000, -1000] b xn yn w0 _ HI0.out HB.out (Kd.R_reads' HP.out).2.2 (Kd.R_reads' HP.out).2.1 (fun ad_ he_ _ e_ => by injection he_ with he_; subst he_; exact HGL.out e_) HNA.out).mono ?_; rintro e_ w110 ⟨rfl, hi, hb, hk⟩; have HI0 := zA hi; have HB := zA hb; have HK := zA (KeepBut.trans HK.out hk (.inl rfl)); have HO := zA (Kd.S_keep HO.out hk (fun k_ h_ e_ => by have := HG.out; first | (have := h_.1; omega) | omega)); have e0 := (show w110.cell? ⟨go, a, none⟩ = w109.cell? ⟨go, a, none⟩ from by simp only [World.cell?, hk.2 go (World.block_lt_of_cell? w109 _ e0) (fun q_ => by have := HG.out; have := HGO.out; omega) (by simp)]).trans e0; have e1 := (show w110.cell? ⟨g1, 0, none⟩ = w109.cell? ⟨g1, 0, none⟩ from by simp only [World.cell?, hk.2 g1 (World.block_lt_of_cell? w109 _ e1) (fun q_ => by have := HG.out; have := HG1.out; omega) (by simp)]).trans e1; clear hi hb hk; obtain ⟨g1_, d1_, g2_, d2_, _, _, e0_, e1_, hf2, ⟨u2, hu2⟩, hput⟩ := spec_l08Draw.deep HO.out a hlt HH.out.1 HH.out.2; obtain rfl : g1 = g1_ := (by have z_ := e0.symm.trans e0_; simp at z_; exact z_.1); obtain rfl : g2 = g2_ := (by have z_ := e1.symm.trans e1_; simp at z_; exact z_.1); have HPUT := zA hput; clear hput e0_ e1_) | ((with_reducible refine gate_store (t := 2) (p := 111) rfl ?_); refine store_event (t := 2) (p := 111) (v := ?vo) (w1 := (w110.setCell ⟨g2, 0, none⟩ (.int .i64 b))) ?hg ?ho ?hn ?hr ?_; (case ho => rfl); (case hg => rfl); (case hn => rfl); (case hr => first | (go_simp; done) | (go_simp; rfl)); intro w111 hw; have HO := zA (show Kd.S (spec_l08Draw.sliceS 45 (Kd.slice 2 (Kd.int .i64))) 27 w111 w.heap.size (fun k_ => w.heap.size ≤ k_) (.slice (some ⟨go, 0, none⟩) Lq co) _ from (by rw [hw]; exact HPUT.out b)); have HI0 := zA (show IsS104 w0 w111 g s0_0 xn yn from (by rw [hw]; exact HI0.out.far (fun q_ => by have := HG.out; have := HG2.out; have q2_ : g = g2 := q_; omega) _)); have HB := zA (show Below w0.heap.size w0 w111 from (by rw [hw]; exact below_set HB.out (Nat.le_trans HW0.out HG2.out))); have HK := zA (show KeepBut w w111 g none from (by rw [hw]; exact ⟨by simpa [World.setCell] using HK.out.1, fun i_ hi_ hg_ hr_ => (Below.heap_setCell w110 ⟨g2, 0, none⟩ _ i_ (fun q_ => by have := HG2.out; have q2_ : i_ = g2 := q_; omega)).trans (HK.out.2 i_ hi_ hg_ hr_)⟩)); clear hw))
                      exact ⟨⟨a + 1, _, xn, yn, hlt, ⟨by rw [List.length_set]; exact HLq.out⟩, by go_num, HF3, HO, HI0, HK, HB⟩, by simp [intOf]; omega⟩
                    · rw [if_neg hh] at ha
                      cases ha
                  · obtain rfl : a = Lq := by omega
                    have ha := HF3.out
                    rw [Nat.sub_self] at ha
                    simp only [spec_l08Draw.putL, Option.some.injEq, Prod.mk.injEq] at ha
                    obtain ⟨rfl, rfl, rfl⟩ := ha
                    have p0 : ((a : Int) < (a : Int)) = False := eq_false (by omega)
                    go_wp2
                    go_ret
                    exact ⟨_, rfl, Kd.R_N (Kd.R_imp (d := spec_l08Draw.sliceS 45 (Kd.slice 2 (Kd.int .i64))) (d' := Kd.slice 45 (Kd.slice 2 (Kd.int .i64))) rfl (fun w_ base ok x cs hx => by obtain ⟨v, e, h⟩ := hx; exact ⟨v, e, Kd.S_R h⟩) (Kd.S_R HO.out)), HI0.out, HB.out, HK.out⟩
              · rw [if_neg c3] at hfin
                simp only [Option.some.injEq, Prod.mk.injEq] at hfin
                obtain ⟨rfl, rfl, rfl⟩ := hfin
                have q3 : (c == 3) = false := beq_eq_false_iff_ne.mpr c3
                clear c0 c1 c2 c3
                go_wp2_with (first | (go_at_call 67; refine (spec_l01Next.calls g s0_0 x y 50 c x4 y4 w0 _ HI0.out HB.out A4.out).mono ?_; rintro e_ w71 ⟨rfl, hi, hb, hk⟩; have HI0 := zA hi; have HB := zA hb; have HK := zA (KeepBut.trans HK.out hk (.inl rfl)); have HO := zA (Kd.S_keep HO.out hk (fun k_ h_ e_ => by have := HG.out; first | (have := h_.1; omega) | omega)); have HNN := zA (Kd.N_keep HNN.out hk (fun k_ h_ e_ => by have := HG.out; first | (have := h_.1; omega) | omega)); clear hi hb hk))
                go_ret
                exact ⟨_, rfl, HNN.out, HI0.out, HB.out, HK.out⟩
  · rw [if_neg hgd] at h
    cases h


end Go.Proofs.Ytkbneilobaehkaa.P
