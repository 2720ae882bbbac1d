/- What a call of each Go function named below comes to is what the plain Lean function beside it says. Made by a program of this session out of the print of the translation; Lean checks it. -/
import Derived.Test.YtcklefgkbddlhaaPx0
import Derived.Test.YtcklefgkbddlhaaPx11
namespace Go.Proofs.Ytcklefgkbddlhaa.P
open Go.RowKit Go.Proofs.YtcklefgkbddlhaaW.PrintWords Go.Proofs.YtcklefgkbddlhaaW.PrintLast Go.Proofs.YtcklefgkbddlhaaW.PrintMore
attribute [local go_sem] max2_int min2_int max_two min_two max_three min_three max_four min_four   -- for this text's walks alone
set_option linter.unusedVariables false
set_option linter.unusedSimpArgs false


/-! ### impl_tablesOf: function 60, by hand -/
/-- Elements that are rows of one's own, no two elements of which lead to one block. -/
def impl_tablesOf.sliceS {α : Type} (e : Nat) (d : Kd α) : Kd (List α) where
  sz := 1
  E := e :: d.E
  K := (Kd.slice e d).K
  M := fun w base ok xs cs => ∃ v, cs = [v] ∧ Kd.S d e w base ok v xs
  K_len := (Kd.slice e d).K_len
  K_one := (Kd.slice e d).K_one
  K_below := (Kd.slice e d).K_below
  K_of_M := by
    rintro w base ok x cs ⟨v, rfl, h⟩
    exact (Kd.slice e d).K_of_M (w := w) (base := base) (ok := ok) ⟨v, rfl, Kd.S_R h⟩
  M_mono := by
    rintro w base ok ok' x cs hok ⟨v, rfl, h⟩
    exact ⟨v, rfl, Kd.S_mono h hok⟩
  M_bound := by
    rintro w base ok x cs ⟨v, rfl, h⟩
    exact ⟨v, rfl, Kd.S_bound h⟩
  M_move := by
    rintro w w1 base ok x cs hm ⟨v, rfl, h⟩
    exact ⟨v, rfl, Kd.S_move h hm⟩
  M_lower := by
    rintro w base base' ok x cs hb ⟨v, rfl, h⟩
    exact ⟨v, rfl, Kd.S_lower h hb⟩
/-- The letters' entries are stored. -/
def impl_tablesOf.l1 : Nat → ByteArray → List (List (List Int)) → Int → Option (List (List (List Int)))
  | 0, _, _, _ => none
  | k + 1, s, x, i => if i < (s.size : Int) then (if 0 ≤ i then (if 0 ≤ (((bt s i) - 48) % 256) then (if (((bt s i) - 48) % 256) < (x.length : Int) then (if i < ((rd_L7 x (((bt s i) - 48) % 256)).length : Int) then (if 0 ≤ wrap64 (i + 1) then (if wrap64 (i + 1) < ((rd_L6 (rd_L7 x (((bt s i) - 48) % 256)) i).length : Int) then impl_tablesOf.l1 k s (x.set (((bt s i) - 48) % 256).toNat ((rd_L7 x (((bt s i) - 48) % 256)).set i.toNat ((rd_L6 (rd_L7 x (((bt s i) - 48) % 256)) i).set (wrap64 (i + 1)).toNat 1))) (wrap64 (i + 1)) else none) else none) else none) else none) else none) else none) else some x
/-- A square for each letter. -/
def impl_tablesOf.l0 : Nat → Int → ByteArray → List (List (List Int)) → Int → Option (List (List (List Int)))
  | 0, _, _, _, _ => none
  | k + 1, d, s, x, i => if i < d then ((impl_square.f k (wrap64 ((s.size : Int) + 1))).bind fun t => (if x.length < 5864062014805 then impl_tablesOf.l0 k d s (x ++ [t]) (wrap64 (i + 1)) else none)) else impl_tablesOf.l1 k s x 0
set_option maxHeartbeats 16000000 in
set_option maxRecDepth 100000 in
theorem impl_tablesOf.callsS (k : Nat) (a0 : Int) (a1 : ByteArray) (r : List (List (List Int))) (w : World) (h : impl_tablesOf.l0 k a0 a1 [] 0 = some r) :
    Calls Try.prog 60 #[.int .i64 a0, .string a1] w fun e w' => ∃ v0_ : Value, e = .returned v0_ ∧ Kd.S (impl_tablesOf.sliceS 48 (Kd.slice 2 (Kd.int .i64))) 62 w' w.heap.size (fun k_ => w.heap.size ≤ k_) v0_ r ∧ Below w.heap.size w w' := by
  have H' := Aside0.mk h
  clear h
  go_enter Try.func60, Try.ntmps60
  go_wp2
  go_loopg [5, 8] k (fun kq v5 v8 w' => ∃ (x5 : List (List (List Int))) (x8 : Int), v8 = .int .i64 x8 ∧ Aside0 (impl_tablesOf.l0 kq a0 a1 x5 x8 = some r) ∧ Aside0 (kq ≤ k) ∧ Aside0 (Kd.S (impl_tablesOf.sliceS 48 (Kd.slice 2 (Kd.int .i64))) 62 w' w.heap.size (fun k_ => w.heap.size ≤ k_) v5 x5) ∧ Aside0 (Below w.heap.size w w'))
  case atStart => exact ⟨[], 0, rfl, H', ⟨Nat.le_refl _⟩, ⟨Kd.S_nil _ _ _ _ _⟩, ⟨Below.refl _ _⟩⟩
  case round =>
    clear H'
    obtain ⟨x5, x8, rfl, HA, HK1, HO, HB⟩ := hrel
    cases gk with
    | zero => exact absurd HA.out (by simp [impl_tablesOf.l0])
    | succ k1 =>
      have H := HA.out
      clear HA
      simp only [impl_tablesOf.l0] at H
      by_cases c6 : x8 < a0
      · rw [if_pos c6] at H
        obtain ⟨t, A8, H⟩ := Option.bind_eq_some_iff.mp H
        by_cases c9 : x5.length < 5864062014805
        · rw [if_pos c9] at H
          have A8 := Aside0.mk A8
          have H' := Aside0.mk H
          have C9 := Aside0.mk c9
          have c6b0 : decide (x8 < a0) = true := decide_eq_true c6
          clear c6 c9 H
          go_wp2_with (first | (go_at_call 116; refine (impl_square.calls k1 (wrap64 ((a1.size : Int) + 1)) t _ A8.out).mono ?_; rintro e w5 ⟨v14, rfl, ho0, hb⟩; have HV := Aside0.mk (show Kd.S (Kd.slice 2 (Kd.int .i64)) 48 w5 w.heap.size (fun k_ => wr.heap.size ≤ k_) v14 t from Kd.S_lower (Kd.S_mono (Kd.S_bound ho0) (fun k_ hk_ => hk_.2.1)) HB.out.size); have HX := Aside0.mk (Kd.S_old HO.out hb); have HB2 := Aside0.mk (below_step HB.out hb); have HSZ := Aside0.mk hb.size; have HLT := Aside0.mk (Kd.S_lt HO.out); clear ho0 hb HO; obtain ⟨Aq, cq, eq0⟩ := Kd.S_slice HV.out; subst eq0) | ((with_reducible refine gate_builtin (b := .append) (xs := #[.tmp 10, .tmp 15]) rfl ?_); at_builtin; refine Kd.S_append (impl_tablesOf.sliceS 48 (Kd.slice 2 (Kd.int .i64))) (w0 := w) w.heap.size rfl (.tmp 10) (.tmp 15) 37 62 (.slice none 0 0) 24 rfl Try.underlying37 info62 rfl (by decide) (by omega) u5 x5 t [.slice Aq t.length cq] (fun k_ => w.heap.size ≤ k_) (fun k_ => wr.heap.size ≤ k_) rfl rfl ⟨_, rfl, HV.out⟩ (fun k_ hk_ => ⟨Nat.le_trans HB.out.size hk_, fun e_ => by have := HLT.out k_ e_.symm; have hk' : wr.heap.size ≤ k_ := hk_; omega⟩) (fun k_ hk_ => Nat.le_trans HB2.out.size hk_) (Kd.S_mono HX.out (fun k_ hk_ => ⟨hk_.1, Nat.not_le.mpr hk_.2⟩)) HB2.out HB2.out.size (by have := C9.out; omega) ?_; intro v1 w6 ho hb hg hat; have HO := Aside0.mk ho; have HB3 := Aside0.mk hb; clear ho hb hg hat))
          go_roundg k1
          case measure => have := HK1.out; omega
          case rel => exact ⟨_, wrap64 (x8 + 1), rfl, H', ⟨by have := HK1.out; omega⟩, HO, HB3⟩
        · rw [if_neg c9] at H
          exact absurd H (by simp)
      · rw [if_neg c6] at H
        have c6b0 : decide (x8 < a0) = false := decide_eq_false c6
        have H' := Aside0.mk H
        clear c6 H
        obtain ⟨Ao, co, eo⟩ := Kd.S_slice HO.out
        subst eo
        generalize hN : x5.length = N at HO
        have HN := Aside0.mk hN
        clear hN
        go_wp2
        go_loopg [20] k1 (fun kq v20 w' => ∃ (x : List (List (List Int))) (i : Int), v20 = .int .i64 i ∧ Aside0 (impl_tablesOf.l1 kq a1 x i = some r) ∧ Aside0 (kq ≤ k1) ∧ Aside0 (x.length = N) ∧ Aside0 (Kd.S (impl_tablesOf.sliceS 48 (Kd.slice 2 (Kd.int .i64))) 62 w' w.heap.size (fun k_ => w.heap.size ≤ k_) (.slice Ao N co) x) ∧ Aside0 (Below w.heap.size w w'))
        case atStart => exact ⟨x5, 0, rfl, H', ⟨Nat.le_refl _⟩, HN, HO, HB⟩
        case round =>
          clear H' HO HB HN
          obtain ⟨x, i, rfl, HA, HK2, HN, HO, HB⟩ := hrel
          cases gk with
          | zero => exact absurd HA.out (by simp [impl_tablesOf.l1])
          | succ k2 =>
            have H := HA.out
            clear HA
            simp only [impl_tablesOf.l1] at H
            by_cases c1 : i < (a1.size : Int)
            ·rw [if_pos c1] at H
             by_cases c2 : 0 ≤ i
             ·rw [if_pos c2] at H
              obtain ⟨j, hj⟩ : ∃ j_ : Int, (((bt a1 i) - 48) % 256) = j_ := ⟨_, rfl⟩
              rw [hj] at H
              by_cases c3 : 0 ≤ j
              ·rw [if_pos c3] at H
               by_cases c4 : j < (x.length : Int)
               ·rw [if_pos c4] at H
                by_cases c5 : i < ((rd_L7 x j).length : Int)
                ·rw [if_pos c5] at H
                 by_cases c6 : 0 ≤ wrap64 (i + 1)
                 ·rw [if_pos c6] at H
                  by_cases c7 : wrap64 (i + 1) < ((rd_L6 (rd_L7 x j) i).length : Int)
                  ·rw [if_pos c7] at H
                   have H' := Aside0.mk H
                   have c1b0 : decide (i < (a1.size : Int)) = true := decide_eq_true c1
                   have p9 : (0 ≤ i) = True := eq_true c2
                   have q9 : (i < (a1.size : Int)) = True := eq_true c1
                   have hx9 := bt_at a1 i
                   have pj : (0 ≤ j) = True := eq_true c3
                   have hjN : j < (N : Int) := by have := HN.out; omega
                   have qj : (j < (N : Int)) = True := eq_true hjN
                   have pk : (0 ≤ wrap64 (i + 1)) = True := eq_true c6
                   obtain ⟨g, cap, e1, hg1, hg2, cells, hcells⟩ := Kd.S_form HO.out (by omega)
                   injection e1 with e1 e2 e3
                   subst e1 e3
                   clear e2
                   obtain ⟨oki, cs, hcs, hM, hcell, hoki, hback⟩ := Kd.S_borrow HO.out ([] : List (List Int)) j c3 hjN
                   have hym : x.getD j.toNat [] = rd_L7 x j := rfl
                   rw [hym] at hM
                   generalize hm : rd_L7 x j = m at hM c5 c7
                   obtain ⟨v', rfl, hS⟩ := hM
                   have hcellv := hcell 0 v' rfl
                   obtain ⟨g', cap', e4, hg3, hg4, cells', hcells'⟩ := Kd.S_form hS (by omega)
                   subst e4
                   have hcell0 : wr.cell? ⟨g, j.toNat, none⟩ = some (.slice (some ⟨g', 0, none⟩) m.length cap') := by
                    have : j.toNat * (impl_tablesOf.sliceS 48 (Kd.slice 2 (Kd.int .i64))).sz + 0 = j.toNat := by show j.toNat * 1 + 0 = _; omega
                    rw [this, add_at, Nat.zero_add] at hcellv; exact hcellv
                   obtain ⟨oki2, cs2, hcs2, hM2, hcell2, hoki2, hback2⟩ := Kd.S_borrow hS ([] : List Int) i c2 c5
                   have hyr : m.getD i.toNat [] = rd_L6 m i := rfl
                   rw [hyr] at hM2
                   generalize hr : rd_L6 m i = row at hM2 c7
                   obtain ⟨v'', rfl, hR⟩ := hM2
                   have hcellw := hcell2 0 v'' rfl
                   obtain ⟨g'', cap'', e5, hg5, hg6, cells'', hcells''⟩ := Kd.R_form hR (by omega)
                   subst e5
                   have hcell1 : wr.cell? ⟨g', i.toNat, none⟩ = some (.slice (some ⟨g'', 0, none⟩) row.length cap'') := by
                    have : i.toNat * (Kd.slice 2 (Kd.int .i64)).sz + 0 = i.toNat := by show i.toNat * 1 + 0 = _; omega
                    rw [this, add_at, Nat.zero_add] at hcellw; exact hcellw
                   have qi : (i < (m.length : Int)) = True := eq_true c5
                   have qk : (wrap64 (i + 1) < (row.length : Int)) = True := eq_true c7
                   obtain ⟨hx9_0, hf9_0⟩ := Kd.R_celln 0 hR (wrap64 (i + 1)) c6 c7
                   have HP := Kd.R_putg hR (wrap64 (i + 1)) 1
                   have hb2 := hback2 (x' := row.set (wrap64 (i + 1)).toNat 1) HP.2 (fun k_ hk_ => hR.1 k_ (by rw [← hk_]; rfl)) ⟨_, rfl, HP.1⟩
                   have hb1 := hback (x' := m.set i.toNat (row.set (wrap64 (i + 1)).toNat 1)) HP.2 (fun k_ hk_ => (hoki2 _ (hR.1 k_ (by rw [← hk_]; rfl))).1) ⟨_, rfl, hb2⟩
                   have HBK := Aside0.mk hb1
                   have HBASE := Aside0.mk hg5
                   have HM := Aside0.mk hm
                   have HRW := Aside0.mk hr
                   clear hb1 hb2 hback hback2 hcell hcell2 hcellv hcellw hoki hoki2 hcs hcs2 hcells hcells' hcells'' hR hS HP hym hyr hm hr hg1 hg2 hg3 hg4 hg5 hg6 c1 c2 c3 c4 c5 c6 c7 H hjN
                   go_wp2_with ((with_reducible refine gate_store (t := 2) (p := 35) rfl ?_); refine store_event (t := 2) (p := 35) (v := ?vo) (w1 := (wr.setCell ⟨g'', (wrap64 (i + 1)).toNat, none⟩ (.int .i64 1))) ?hg ?ho ?hn ?hr ?_; (case ho => rfl); (case hg => rfl); (case hn => rfl); (case hr => first | (go_simp; done) | (go_simp; rfl)); intro w14 hw; have HO2 := Aside0.mk (show Kd.S (impl_tablesOf.sliceS 48 (Kd.slice 2 (Kd.int .i64))) 62 w14 w.heap.size (fun k_ => w.heap.size ≤ k_) (.slice (some ⟨g, 0, none⟩) N co) (x.set j.toNat (m.set i.toNat (row.set (wrap64 (i + 1)).toNat 1))) from (by rw [hw]; exact HBK.out)); have HB2 := Aside0.mk (show Below w.heap.size w w14 from (by rw [hw]; exact below_set HB.out HBASE.out)); clear hw HBK)
                   go_roundg k2
                   case measure => have := HK1.out; have := HK2.out; omega
                   case rel => exact ⟨_, wrap64 (i + 1), rfl, H', ⟨by have := HK2.out; omega⟩, ⟨by rw [List.length_set]; exact HN.out⟩, ⟨by rw [HM.out, HRW.out]; exact HO2.out⟩, HB2⟩
                  ·rw [if_neg c7] at H
                   exact absurd H (by simp)
                 ·rw [if_neg c6] at H
                  exact absurd H (by simp)
                ·rw [if_neg c5] at H
                 exact absurd H (by simp)
               ·rw [if_neg c4] at H
                exact absurd H (by simp)
              ·rw [if_neg c3] at H
               exact absurd H (by simp)
             ·rw [if_neg c2] at H
              exact absurd H (by simp)
            ·rw [if_neg c1] at H
             have c1b0 : decide (i < (a1.size : Int)) = false := decide_eq_false c1
             obtain rfl := Option.some.inj H
             clear c1 H
             go_wp2
             go_ret
             exact ⟨_, rfl, HO.out, HB.out⟩
def impl_tablesOf.f (k : Nat) (a0 : Int) (a1 : ByteArray) : Option (List (List (List Int))) := impl_tablesOf.l0 k a0 a1 [] 0
theorem impl_tablesOf.mono_l : ∀ k, (∀ y0 y1 y2 y3, LeO (impl_tablesOf.l0 k y0 y1 y2 y3) (impl_tablesOf.l0 (k + 1) y0 y1 y2 y3)) ∧ (∀ y0 y1 y2, LeO (impl_tablesOf.l1 k y0 y1 y2) (impl_tablesOf.l1 (k + 1) y0 y1 y2))
  | 0 => ⟨fun _ _ _ _ r h => by simp [impl_tablesOf.l0] at h, fun _ _ _ r h => by simp [impl_tablesOf.l1] at h⟩
  | k + 1 => by
    obtain ⟨ih0, ih1⟩ := impl_tablesOf.mono_l k
    refine ⟨?_, ?_⟩
    · intro y0 y1 y2 y3
      unfold impl_tablesOf.l0
      repeat' first
      | (with_reducible exact ih0 _ _ _ _)
      | (with_reducible exact ih1 _ _ _)
      | (with_reducible exact impl_square.mono _ _)
      | (with_reducible exact LeO.none _)
      | (with_reducible refine LeO.ite ?_ ?_)
      | (with_reducible refine LeO.bind ?_ (fun _ => ?_))
    · intro y0 y1 y2
      unfold impl_tablesOf.l1
      repeat' first
      | (with_reducible exact ih1 _ _ _)
      | (with_reducible exact LeO.refl _)
      | (with_reducible exact LeO.none _)
      | (with_reducible refine LeO.ite ?_ ?_)
      | (with_reducible refine LeO.bind ?_ (fun _ => ?_))
theorem impl_tablesOf.mono : ∀ a0 a1 k, LeO (impl_tablesOf.f k a0 a1) (impl_tablesOf.f (k + 1) a0 a1) := fun a0 a1 k => (impl_tablesOf.mono_l k).1 a0 a1 [] 0
theorem impl_tablesOf.calls (k : Nat) (a0 : Int) (a1 : ByteArray) (r : List (List (List Int))) (w : World) (h : impl_tablesOf.f k a0 a1 = some r) :
    Calls Try.prog 60 #[.int .i64 a0, .string a1] w fun e w' => ∃ v0_ : Value, e = .returned (v0_) ∧ Kd.R (Kd.slice 48 (Kd.slice 2 (Kd.int .i64))) 62 w' w.heap.size (fun _ => True) v0_ r ∧ Below w.heap.size w w' := by
  refine (impl_tablesOf.callsS k a0 a1 r w h).mono ?_
  rintro e w' ⟨v0_, he, hS, hB⟩
  refine ⟨v0_, he, ?_, hB⟩
  have hR := Kd.S_R hS
  refine ⟨fun _ _ => trivial, hR.2.imp_ (fun p c hp => ?_)⟩
  obtain ⟨v, hv, hs⟩ := hp
  exact ⟨v, hv, Kd.S_R (Kd.S_mono hs (fun _ hk => ⟨trivial, hk.2⟩))⟩


end Go.Proofs.Ytcklefgkbddlhaa.P
