/- What a call of each Go function named below comes to is what the plain Lean function beside it says. Made by a program of this session out of the print of the translation; Lean checks it. -/
import Derived.Test.YtkbneilobaehkaaPx0
import Derived.Test.YtkbneilobaehkaaPx4
import Derived.Test.YtkbneilobaehkaaPx7
import Derived.Test.YtkbneilobaehkaaPx9
namespace Go.Proofs.Ytkbneilobaehkaa.P
open Go.RowKit Go.Proofs.YtkbneilobaehkaaW.PrintWords Go.Proofs.YtkbneilobaehkaaW.PrintLast Go.Proofs.YtkbneilobaehkaaW.PrintMore
attribute [local go_sem] max2_int min2_int max_two min_two max_three min_three max_four min_four   -- for this text's walks alone
set_option linter.unusedVariables false
set_option linter.unusedSimpArgs false
set_option maxHeartbeats 8000000
set_option maxRecDepth 100000


/-! ### impl_tablesOf: function 65, by hand -/
/-- Elements that are rows of one's own, no two elements of which lead to one block. -/
def impl_tablesOf.sliceS {α : Type} (e : Nat) (d : Kd α) : Kd (List α) where
 sz := 1
 E := e :: d.E
 K := (Kd.slice e d).K
 M := fun w base ok xs cs => ∃ v, cs = [v] ∧ Kd.S d e w base ok v xs
 K_len := (Kd.slice e d).K_len
 K_one := (Kd.slice e d).K_one
 K_below := (Kd.slice e d).K_below
 K_of_M := by
  rintro w base ok x cs ⟨v, rfl, h⟩
  exact (Kd.slice e d).K_of_M (w := w) (base := base) (ok := ok) ⟨v, rfl, Kd.S_R h⟩
 M_mono := by
  rintro w base ok ok' x cs hok ⟨v, rfl, h⟩
  exact ⟨v, rfl, Kd.S_mono h hok⟩
 M_bound := by
  rintro w base ok x cs ⟨v, rfl, h⟩
  exact ⟨v, rfl, Kd.S_bound h⟩
 M_move := by
  rintro w w1 base ok x cs hm ⟨v, rfl, h⟩
  exact ⟨v, rfl, Kd.S_move h hm⟩
 M_lower := by
  rintro w base base' ok x cs hb ⟨v, rfl, h⟩
  exact ⟨v, rfl, Kd.S_lower h hb⟩
/-- The letters' entries are stored. -/
def impl_tablesOf.l1 : Nat → ByteArray → List (List (List Int)) → Int → Option (List (List (List Int)))
 | 0, _, _, _ => none
 | k + 1, s, x, i => if i < (s.size : Int) then (if 0 ≤ i then (if 0 ≤ (((bt s i) - 48) % 256) then (if (((bt s i) - 48) % 256) < (x.length : Int) then (if i < ((rd_L4 x (((bt s i) - 48) % 256)).length : Int) then (if 0 ≤ wrap64 (i + 1) then (if wrap64 (i + 1) < ((rd_L3 (rd_L4 x (((bt s i) - 48) % 256)) i).length : Int) then impl_tablesOf.l1 k s (x.set (((bt s i) - 48) % 256).toNat ((rd_L4 x (((bt s i) - 48) % 256)).set i.toNat ((rd_L3 (rd_L4 x (((bt s i) - 48) % 256)) i).set (wrap64 (i + 1)).toNat 1))) (wrap64 (i + 1)) else none) else none) else none) else none) else none) else none) else some x
/-- A square for each letter. -/
def impl_tablesOf.l0 : Nat → Int → ByteArray → List (List (List Int)) → Int → Option (List (List (List Int)))
 | 0, _, _, _, _ => none
 | k + 1, d, s, x, i => if i < d then ((impl_square.f k (wrap64 ((s.size : Int) + 1))).bind fun t => (if x.length < 5864062014805 then impl_tablesOf.l0 k d s (x ++ [t]) (wrap64 (i + 1)) else none)) else impl_tablesOf.l1 k s x 0
set_option maxHeartbeats 16000000 in
set_option maxRecDepth 100000 in
theorem impl_tablesOf.callsS (k : Nat) (a0 : Int) (a1 : ByteArray) (r : List (List (List Int))) (w : World) (h : impl_tablesOf.l0 k a0 a1 [] 0 = some r) :
 Calls Try.prog 65 #[.int .i64 a0, .string a1] w fun e w' => ∃ v0_ : Value, e = .returned v0_ ∧ Kd.S (impl_tablesOf.sliceS 45 (Kd.slice 2 (Kd.int .i64))) 27 w' w.heap.size (fun k_ => w.heap.size ≤ k_) v0_ r ∧ Below w.heap.size w w' := by
 have H' := zA h
 clear h
 go_enter Try.func65, Try.ntmps65
 go_wp2
 go_loopg [5, 8] k (fun kq v5 v8 w' => ∃ (x5 : List (List (List Int))) (x8 : Int), v8 = .int .i64 x8 ∧ Aside0 (impl_tablesOf.l0 kq a0 a1 x5 x8 = some r) ∧ Aside0 (kq ≤ k) ∧ Aside0 (Kd.S (impl_tablesOf.sliceS 45 (Kd.slice 2 (Kd.int .i64))) 27 w' w.heap.size (fun k_ => w.heap.size ≤ k_) v5 x5) ∧ Aside0 (Below w.heap.size w w'))
 case atStart => exact ⟨[], 0, rfl, H', ⟨Nat.le_refl _⟩, ⟨Kd.S_nil _ _ _ _ _⟩, ⟨Below.refl _ _⟩⟩
 case round =>
  clear H'
  obtain ⟨x5, x8, rfl, HA, HK1, HO, HB⟩ := hrel
  cases gk with
  | zero => exact absurd HA.out (by simp [impl_tablesOf.l0])
  | succ k1 =>
   have H := HA.out
   clear HA
   simp only [impl_tablesOf.l0] at H
   by_cases c6 : x8 < a0
   ·rw [if_pos c6] at H
    obtain ⟨t, A8, H⟩ := Option.bind_eq_some_iff.mp H
    by_cases c9 : x5.length < 5864062014805
    ·rw [if_pos c9] at H
     have A8 := zA A8
     have H' := zA H
     have C9 := zA c9
     have c6b0 : decide (x8 < a0) = true := decide_eq_true c6
     clear c6 c9 H
     go_wp2_with (first | (go_at_call 86; refine (impl_square.calls k1 (wrap64 ((a1.size : Int) + 1)) t _ A8.out).mono ?_; rintro e w5 ⟨v14, rfl, ho0, hb⟩; have HV := zA (show Kd.S (Kd.slice 2 (Kd.int .i64)) 45 w5 w.heap.size (fun k_ => wr.heap.size ≤ k_) v14 t from Kd.S_lower (Kd.S_mono (Kd.S_bound ho0) (fun k_ hk_ => hk_.2.1)) HB.out.size); have HX := zA (Kd.S_old HO.out hb); have HB2 := zA (below_step HB.out hb); have HSZ := zA hb.size; have HLT := zA (Kd.S_lt HO.out); clear ho0 hb HO; obtain ⟨Aq, cq, eq0⟩ := Kd.S_slice HV.out; subst eq0) | ((with_reducible refine gate_builtin (b := .append) (xs := #[.tmp 10, .tmp 15]) rfl ?_); at_builtin; refine Kd.S_append (impl_tablesOf.sliceS 45 (Kd.slice 2 (Kd.int .i64))) (w0 := w) w.heap.size rfl (.tmp 10) (.tmp 15) 24 27 (.slice none 0 0) 24 rfl Try.underlying24 info27 rfl (by decide) (by omega) u5 x5 t [.slice Aq t.length cq] (fun k_ => w.heap.size ≤ k_) (fun k_ => wr.heap.size ≤ k_) rfl rfl ⟨_, rfl, HV.out⟩ (fun k_ hk_ => ⟨Nat.le_trans HB.out.size hk_, fun e_ => by have := HLT.out k_ e_.symm; have hk' : wr.heap.size ≤ k_ := hk_; omega⟩) (fun k_ hk_ => Nat.le_trans HB2.out.size hk_) (Kd.S_mono HX.out (fun k_ hk_ => ⟨hk_.1, Nat.not_le.mpr hk_.2⟩)) HB2.out HB2.out.size (by have := C9.out; omega) ?_; intro v1 w6 ho hb hg hat; have HO := zA ho; have HB3 := zA hb; clear ho hb hg hat))
     go_roundg k1
     case measure => have := HK1.out; omega
     case rel => exact ⟨_, wrap64 (x8 + 1), rfl, H', ⟨by have := HK1.out; omega⟩, HO, HB3⟩
    ·rw [if_neg c9] at H
     exact absurd H (by simp)
   ·rw [if_neg c6] at H
    have c6b0 : decide (x8 < a0) = false := decide_eq_false c6
    have H' := zA H
    clear c6 H
    obtain ⟨Ao, co, eo⟩ := Kd.S_slice HO.out
    subst eo
    generalize hN : x5.length = N at HO
    have HN := zA hN
    clear hN
    go_wp2
    go_loopg [20] k1 (fun kq v20 w' => ∃ (x : List (List (List Int))) (i : Int), v20 = .int .i64 i ∧ Aside0 (impl_tablesOf.l1 kq a1 x i = some r) ∧ Aside0 (kq ≤ k1) ∧ Aside0 (x.length = N) ∧ Aside0 (Kd.S (impl_tablesOf.sliceS 45 (Kd.slice 2 (Kd.int .i64))) 27 w' w.heap.size (fun k_ => w.heap.size ≤ k_) (.slice Ao N co) x) ∧ Aside0 (Below w.heap.size w w'))
    case atStart => exact ⟨x5, 0, rfl, H', ⟨Nat.le_refl _⟩, HN, HO, HB⟩
    case round =>
     clear H' HO HB HN
     obtain ⟨x, i, rfl, HA, HK2, HN, HO, HB⟩ := hrel
     cases gk with
     | zero => exact absurd HA.out (by simp [impl_tablesOf.l1])
     | succ k2 =>
      have H := HA.out
      clear HA
      simp only [impl_tablesOf.l1] at H
      by_cases c1 : i < (a1.size : Int)
      ·rw [if_pos c1] at H
       by_cases c2 : 0 ≤ i
       ·rw [if_pos c2] at H
        obtain ⟨j, hj⟩ : ∃ j_ : Int, (((bt a1 i) - 48) % 256) = j_ := ⟨_, rfl⟩
        rw [hj] at H
        by_cases c3 : 0 ≤ j
        ·rw [if_pos c3] at H
         by_cases c4 : j < (x.length : Int)
         ·rw [if_pos c4] at H
          by_cases c5 : i < ((rd_L4 x j).length : Int)
          ·rw [if_pos c5] at H
           by_cases c6 : 0 ≤ wrap64 (i + 1)
           ·rw [if_pos c6] at H
            by_cases c7 : wrap64 (i + 1) < ((rd_L3 (rd_L4 x j) i).length : Int)
            ·rw [if_pos c7] at H
             have H' := zA H
             have c1b0 : decide (i < (a1.size : Int)) = true := decide_eq_true c1
             have p9 : (0 ≤ i) = True := eq_true c2
             have q9 : (i < (a1.size : Int)) = True := eq_true c1
             have hx9 := bt_at a1 i
             have pj : (0 ≤ j) = True := eq_true c3
             have hjN : j < (N : Int) := by have := HN.out; omega
             have qj : (j < (N : Int)) = True := eq_true hjN
             have pk : (0 ≤ wrap64 (i + 1)) = True := eq_true c6
             obtain ⟨g, cap, e1, hg1, hg2, cells, hcells⟩ := Kd.S_form HO.out (by omega)
             injection e1 with e1 e2 e3
             subst e1 e3
             clear e2
             obtain ⟨oki, cs, hcs, hM, hcell, hoki, hback⟩ := Kd.S_borrow HO.out ([] : List (List Int)) j c3 hjN
             have hym : x.getD j.toNat [] = rd_L4 x j := rfl
             rw [hym] at hM
             generalize hm : rd_L4 x j = m at hM c5 c7
             obtain ⟨v', rfl, hS⟩ := hM
             have hcellv := hcell 0 v' rfl
             obtain ⟨g', cap', e4, hg3, hg4, cells', hcells'⟩ := Kd.S_form hS (by omega)
             subst e4
             have hcell0 : wr.cell? ⟨g, j.toNat, none⟩ = some (.slice (some ⟨g', 0, none⟩) m.length cap') := by
              have : j.toNat * (impl_tablesOf.sliceS 45 (Kd.slice 2 (Kd.int .i64))).sz + 0 = j.toNat := by show j.toNat * 1 + 0 = _; omega
              rw [this, add_at, Nat.zero_add] at hcellv; exact hcellv
             obtain ⟨oki2, cs2, hcs2, hM2, hcell2, hoki2, hback2⟩ := Kd.S_borrow hS ([] : List Int) i c2 c5
             have hyr : m.getD i.toNat [] = rd_L3 m i := rfl
             rw [hyr] at hM2
             generalize hr : rd_L3 m i = row at hM2 c7
             obtain ⟨v'', rfl, hR⟩ := hM2
             have hcellw := hcell2 0 v'' rfl
             obtain ⟨g'', cap'', e5, hg5, hg6, cells'', hcells''⟩ := Kd.R_form hR (by omega)
             subst e5
             have hcell1 : wr.cell? ⟨g', i.toNat, none⟩ = some (.slice (some ⟨g'', 0, none⟩) row.length cap'') := by
              have : i.toNat * (Kd.slice 2 (Kd.int .i64)).sz + 0 = i.toNat := by show i.toNat * 1 + 0 = _; omega
              rw [this, add_at, Nat.zero_add] at hcellw; exact hcellw
             have qi : (i < (m.length : Int)) = True := eq_true c5
             have qk : (wrap64 (i + 1) < (row.length : Int)) = True := eq_true c7
             obtain ⟨hx9_0, hf9_0⟩ := Kd.R_celln 0 hR (wrap64 (i + 1)) c6 c7
             have HP := Kd.R_putg hR (wrap64 (i + 1)) 1
             have hb2 := hback2 (x' := row.set (wrap64 (i + 1)).toNat 1) HP.2 (fun k_ hk_ => hR.1 k_ (by rw [← hk_]; rfl)) ⟨_, rfl, HP.1⟩
             have hb1 := hback (x' := m.set i.toNat (row.set (wrap64 (i + 1)).toNat 1)) HP.2 (fun k_ hk_ => (hoki2 _ (hR.1 k_ (by rw [← hk_]; rfl))).1) ⟨_, rfl, hb2⟩
             have HBK := zA hb1
             have HBASE := zA hg5
             have HM := zA hm
             have HRW := zA hr
             clear hb1 hb2 hback hback2 hcell hcell2 hcellv hcellw hoki hoki2 hcs hcs2 hcells hcells' hcells'' hR hS HP hym hyr hm hr hg1 hg2 hg3 hg4 hg5 hg6 c1 c2 c3 c4 c5 c6 c7 H hjN
             go_wp2_with ((with_reducible refine gate_store (t := 2) (p := 35) rfl ?_); refine store_event (t := 2) (p := 35) (v := ?vo) (w1 := (wr.setCell ⟨g'', (wrap64 (i + 1)).toNat, none⟩ (.int .i64 1))) ?hg ?ho ?hn ?hr ?_; (case ho => rfl); (case hg => rfl); (case hn => rfl); (case hr => (go_simp; done)); intro w14 hw; have HO2 := zA (show Kd.S (impl_tablesOf.sliceS 45 (Kd.slice 2 (Kd.int .i64))) 27 w14 w.heap.size (fun k_ => w.heap.size ≤ k_) (.slice (some ⟨g, 0, none⟩) N co) (x.set j.toNat (m.set i.toNat (row.set (wrap64 (i + 1)).toNat 1))) from (by rw [hw]; exact HBK.out)); have HB2 := zA (show Below w.heap.size w w14 from (by rw [hw]; exact below_set HB.out HBASE.out)); clear hw HBK)
             go_roundg k2
             case measure => have := HK1.out; have := HK2.out; omega
             case rel => exact ⟨_, wrap64 (i + 1), rfl, H', ⟨by have := HK2.out; omega⟩, ⟨by rw [List.length_set]; exact HN.out⟩, ⟨by rw [HM.out, HRW.out]; exact HO2.out⟩, HB2⟩
            ·rw [if_neg c7] at H
             exact absurd H (by simp)
           ·rw [if_neg c6] at H
            exact absurd H (by simp)
          ·rw [if_neg c5] at H
           exact absurd H (by simp)
         ·rw [if_neg c4] at H
          exact absurd H (by simp)
        ·rw [if_neg c3] at H
         exact absurd H (by simp)
       ·rw [if_neg c2] at H
        exact absurd H (by simp)
      ·rw [if_neg c1] at H
       have c1b0 : decide (i < (a1.size : Int)) = false := decide_eq_false c1
       obtain rfl := Option.some.inj H
       clear c1 H
       go_wp2
       go_ret
       exact ⟨_, rfl, HO.out, HB.out⟩
def impl_tablesOf.f (k : Nat) (a0 : Int) (a1 : ByteArray) : Option (List (List (List Int))) := impl_tablesOf.l0 k a0 a1 [] 0
theorem impl_tablesOf.mono_l : ∀ k, (∀ y0 y1 y2 y3, LeO (impl_tablesOf.l0 k y0 y1 y2 y3) (impl_tablesOf.l0 (k + 1) y0 y1 y2 y3)) ∧ (∀ y0 y1 y2, LeO (impl_tablesOf.l1 k y0 y1 y2) (impl_tablesOf.l1 (k + 1) y0 y1 y2))
 | 0 => ⟨fun _ _ _ _ r h => by simp [impl_tablesOf.l0] at h, fun _ _ _ r h => by simp [impl_tablesOf.l1] at h⟩
 | k + 1 => by
  obtain ⟨ih0, ih1⟩ := impl_tablesOf.mono_l k
  refine ⟨?_, ?_⟩
  ·intro y0 y1 y2 y3
   unfold impl_tablesOf.l0
   repeat' first
   | (with_reducible exact ih0 _ _ _ _)
   | (with_reducible exact ih1 _ _ _)
   | (with_reducible exact impl_square.mono _ _)
   | (with_reducible exact LeO.none _)
   | (with_reducible refine LeO.ite ?_ ?_)
   | (with_reducible refine LeO.bind ?_ (fun _ => ?_))
  ·intro y0 y1 y2
   unfold impl_tablesOf.l1
   repeat' first
   | (with_reducible exact ih1 _ _ _)
   | (with_reducible exact LeO.refl _)
   | (with_reducible exact LeO.none _)
   | (with_reducible refine LeO.ite ?_ ?_)
   | (with_reducible refine LeO.bind ?_ (fun _ => ?_))
theorem impl_tablesOf.mono : ∀ a0 a1 k, LeO (impl_tablesOf.f k a0 a1) (impl_tablesOf.f (k + 1) a0 a1) := fun a0 a1 k => (impl_tablesOf.mono_l k).1 a0 a1 [] 0
theorem impl_tablesOf.calls (k : Nat) (a0 : Int) (a1 : ByteArray) (r : List (List (List Int))) (w : World) (h : impl_tablesOf.f k a0 a1 = some r) :
 Calls Try.prog 65 #[.int .i64 a0, .string a1] w fun e w' => ∃ v0_ : Value, e = .returned (v0_) ∧ Kd.R (Kd.slice 45 (Kd.slice 2 (Kd.int .i64))) 27 w' w.heap.size (fun _ => True) v0_ r ∧ Below w.heap.size w w' := by
 refine (impl_tablesOf.callsS k a0 a1 r w h).mono ?_
 rintro e w' ⟨v0_, he, hS, hB⟩
 refine ⟨v0_, he, ?_, hB⟩
 have hR := Kd.S_R hS
 refine ⟨fun _ _ => trivial, hR.2.imp_ (fun p c hp => ?_)⟩
 obtain ⟨v, hv, hs⟩ := hp
 exact ⟨v, hv, Kd.S_R (Kd.S_mono hs (fun _ hk => ⟨trivial, hk.2⟩))⟩


/-! ### impl_TablesOfWord: function 19 -/
def impl_TablesOfWord.f (k : Nat) (a0 : Int) (a1 : ByteArray) : Option ((List (List (List Int))) × Int) := (impl_areLetters.f a0).bind fun t454 => (if t454 = true then ((impl_isWord.f k a0 a1 1099511627776).bind fun t455 => (if t455 = true then (if (a1.size : Int) > 5 then (some (([] : List (List (List Int))), 2)) else ((impl_tablesOf.f k a0 a1).bind fun t456 => (some (t456, 0)))) else (some (([] : List (List (List Int))), 1)))) else (some (([] : List (List (List Int))), 2)))
theorem impl_TablesOfWord.mono : ∀ a0 a1 k, LeO (impl_TablesOfWord.f k a0 a1) (impl_TablesOfWord.f (k + 1) a0 a1) := by
 intro a0 a1 k
 unfold impl_TablesOfWord.f
 repeat' first
  | (with_reducible exact impl_isWord.mono _ _ _ _)
  | (with_reducible exact impl_tablesOf.mono _ _ _)
  | (with_reducible exact LeO.refl _)
  | (with_reducible exact LeO.none _)
  | (with_reducible refine LeO.ite ?_ ?_)
  | (with_reducible refine LeO.bind ?_ (fun _ => ?_))
theorem impl_TablesOfWord.calls (k : Nat) (a0 : Int) (a1 : ByteArray) (r1 : List (List (List Int))) (r2 : Int) (w : World) (h : impl_TablesOfWord.f k a0 a1 = some (r1, r2)) :
 Calls Try.prog 19 #[.int .i64 a0, .string a1] w fun e w' => ∃ v0_ : Value, e = .returned (.tuple #[v0_, .int .i64 r2]) ∧ Kd.R (Kd.slice 45 (Kd.slice 2 (Kd.int .i64))) 27 w' w.heap.size (fun _ => True) v0_ r1 ∧ Below w.heap.size w w' := by
 have HB := zA (Below.refl w.heap.size w)
 have H : ((impl_areLetters.f a0).bind fun t454 => (if t454 = true then ((impl_isWord.f k a0 a1 1099511627776).bind fun t455 => (if t455 = true then (if (a1.size : Int) > 5 then (some (([] : List (List (List Int))), 2)) else ((impl_tablesOf.f k a0 a1).bind fun t456 => (some (t456, 0)))) else (some (([] : List (List (List Int))), 1)))) else (some (([] : List (List (List Int))), 2)))) = some (r1, r2) := h
 clear h
 replace H := Option.bind_eq_some_iff.mp H
 obtain ⟨t454, A30, H⟩ := H
 replace H : (if t454 = true then ((impl_isWord.f k a0 a1 1099511627776).bind fun t455 => (if t455 = true then (if (a1.size : Int) > 5 then (some (([] : List (List (List Int))), 2)) else ((impl_tablesOf.f k a0 a1).bind fun t456 => (some (t456, 0)))) else (some (([] : List (List (List Int))), 1)))) else (some (([] : List (List (List Int))), 2))) = some (r1, r2) := H
 have A3 := zA A30
 clear A30
 by_cases c4 : t454 = true
 ·subst c4
  have H1 : ((impl_isWord.f k a0 a1 1099511627776).bind fun t455 => (if t455 = true then (if (a1.size : Int) > 5 then (some (([] : List (List (List Int))), 2)) else ((impl_tablesOf.f k a0 a1).bind fun t456 => (some (t456, 0)))) else (some (([] : List (List (List Int))), 1)))) = some (r1, r2) := by rw [if_pos rfl] at H; exact H
  clear H
  have H := H1
  clear H1
  replace H := Option.bind_eq_some_iff.mp H
  obtain ⟨t455, A50, H⟩ := H
  replace H : (if t455 = true then (if (a1.size : Int) > 5 then (some (([] : List (List (List Int))), 2)) else ((impl_tablesOf.f k a0 a1).bind fun t456 => (some (t456, 0)))) else (some (([] : List (List (List Int))), 1))) = some (r1, r2) := H
  have A5 := zA A50
  clear A50
  by_cases c6 : t455 = true
  ·subst c6
   have H1 : (if (a1.size : Int) > 5 then (some (([] : List (List (List Int))), 2)) else ((impl_tablesOf.f k a0 a1).bind fun t456 => (some (t456, 0)))) = some (r1, r2) := by rw [if_pos rfl] at H; exact H
   clear H
   have H := H1
   clear H1
   by_cases c7 : (a1.size : Int) > 5
   ·rw [if_pos c7] at H
    have c7b0 : decide (5 < (a1.size : Int)) = true := decide_eq_true c7
    have c7b1 : decide (5 < a1.size) = true := decide_eq_true (by omega)
    clear c7
    simp only [Option.some.injEq, Prod.mk.injEq] at H
    obtain ⟨rfl, rfl⟩ := H
    go_enter Try.func19, Try.ntmps19
    go_wp2_with (first | ((with_reducible refine gate_callee (f := 51) rfl ?_); refine goesL_ (some 8) rfl rfl Try.func51 (by kernel_rfl) rfl #[.int .i64 a0] rfl zM ?_; (with_reducible refine (impl_areLetters.calls a0 true _ A3.out).mono ?_); rintro e w' ⟨rfl, ⟨nd, rfl⟩⟩; refine ⟨_, rfl, ?_⟩) | ((with_reducible refine gate_callee (f := 46) rfl ?_); refine goesL_ (some 13) rfl rfl Try.func46 (by kernel_rfl) rfl #[.int .i64 a0, .string a1, .int .i64 1099511627776] rfl zM ?_; (with_reducible refine (impl_isWord.calls k a0 a1 1099511627776 true _ A5.out).mono ?_); rintro e w' ⟨rfl, ⟨nd, rfl⟩⟩; refine ⟨_, rfl, ?_⟩))
    go_ret2
    exact ⟨_, by rfl, by exact Kd.R_nil _ _ _ _ _, zB⟩
   ·rw [if_neg c7] at H
    have c7b0 : decide (5 < (a1.size : Int)) = false := decide_eq_false c7
    have c7b1 : decide (5 < a1.size) = false := decide_eq_false (by omega)
    clear c7
    replace H := Option.bind_eq_some_iff.mp H
    obtain ⟨t456, A80, H⟩ := H
    replace H : (some (t456, 0)) = some (r1, r2) := H
    have A8 := zA A80
    clear A80
    simp only [Option.some.injEq, Prod.mk.injEq] at H
    obtain ⟨rfl, rfl⟩ := H
    go_enter Try.func19, Try.ntmps19
    go_wp2_with (first | ((with_reducible refine gate_callee (f := 51) rfl ?_); refine goesL_ (some 8) rfl rfl Try.func51 (by kernel_rfl) rfl #[.int .i64 a0] rfl zM ?_; (with_reducible refine (impl_areLetters.calls a0 true _ A3.out).mono ?_); rintro e w' ⟨rfl, ⟨nd, rfl⟩⟩; refine ⟨_, rfl, ?_⟩) | ((with_reducible refine gate_callee (f := 46) rfl ?_); refine goesL_ (some 13) rfl rfl Try.func46 (by kernel_rfl) rfl #[.int .i64 a0, .string a1, .int .i64 1099511627776] rfl zM ?_; (with_reducible refine (impl_isWord.calls k a0 a1 1099511627776 true _ A5.out).mono ?_); rintro e w' ⟨rfl, ⟨nd, rfl⟩⟩; refine ⟨_, rfl, ?_⟩) | ((with_reducible refine gate_callee (f := 65) rfl ?_); refine goesL_ (some 21) rfl rfl Try.func65 (by kernel_rfl) rfl #[.int .i64 a0, .string a1] rfl zM ?_; (with_reducible refine (impl_tablesOf.calls k a0 a1 t456 _ A8.out).mono ?_); rintro e w9 ⟨v457, rfl, ho0, hb⟩; refine ⟨_, rfl, ?_⟩; have HO458 := zA (Kd.R_lower ho0 (below_size zB)); replace HB := zA (below_step zB hb); (try clear hb); (try clear hb2); (try clear hk); (try clear hi); (try clear ho0)))
    go_ret2
    exact ⟨_, by rfl, zR, zB⟩
  ·replace c6 := Bool.eq_false_iff.mpr c6
   subst c6
   have H1 : (some (([] : List (List (List Int))), 1)) = some (r1, r2) := by rw [if_neg (show ¬ (false = true) by decide)] at H; exact H
   clear H
   have H := H1
   clear H1
   simp only [Option.some.injEq, Prod.mk.injEq] at H
   obtain ⟨rfl, rfl⟩ := H
   go_enter Try.func19, Try.ntmps19
   go_wp2_with (first | ((with_reducible refine gate_callee (f := 51) rfl ?_); refine goesL_ (some 8) rfl rfl Try.func51 (by kernel_rfl) rfl #[.int .i64 a0] rfl zM ?_; (with_reducible refine (impl_areLetters.calls a0 true _ A3.out).mono ?_); rintro e w' ⟨rfl, ⟨nd, rfl⟩⟩; refine ⟨_, rfl, ?_⟩) | ((with_reducible refine gate_callee (f := 46) rfl ?_); refine goesL_ (some 13) rfl rfl Try.func46 (by kernel_rfl) rfl #[.int .i64 a0, .string a1, .int .i64 1099511627776] rfl zM ?_; (with_reducible refine (impl_isWord.calls k a0 a1 1099511627776 false _ A5.out).mono ?_); rintro e w' ⟨rfl, ⟨nd, rfl⟩⟩; refine ⟨_, rfl, ?_⟩))
   go_ret2
   exact ⟨_, by rfl, by exact Kd.R_nil _ _ _ _ _, zB⟩
 ·replace c4 := Bool.eq_false_iff.mpr c4
  subst c4
  have H1 : (some (([] : List (List (List Int))), 2)) = some (r1, r2) := by rw [if_neg (show ¬ (false = true) by decide)] at H; exact H
  clear H
  have H := H1
  clear H1
  simp only [Option.some.injEq, Prod.mk.injEq] at H
  obtain ⟨rfl, rfl⟩ := H
  go_enter Try.func19, Try.ntmps19
  go_wp2_with (first | ((with_reducible refine gate_callee (f := 51) rfl ?_); refine goesL_ (some 8) rfl rfl Try.func51 (by kernel_rfl) rfl #[.int .i64 a0] rfl zM ?_; (with_reducible refine (impl_areLetters.calls a0 false _ A3.out).mono ?_); rintro e w' ⟨rfl, ⟨nd, rfl⟩⟩; refine ⟨_, rfl, ?_⟩))
  go_ret2
  exact ⟨_, by rfl, by exact Kd.R_nil _ _ _ _ _, zB⟩


/-! ### spec_l08Tables: function 66 -/
mutual
def spec_l08Tables.l0 : Nat → Int → ByteArray → List (List (List Int)) → Int → Option ((List (List (List Int))))
 | 0, _, _, _, _ => none
 | k + 1, x0, x1, x5, x6 => if x6 < x0 then (spec_l08Tables.l1 k x0 x1 x5 x6 (([] : List (List Int))) 0) else (some x5)
def spec_l08Tables.l1 : Nat → Int → ByteArray → List (List (List Int)) → Int → List (List Int) → Int → Option ((List (List (List Int))))
 | 0, _, _, _, _, _, _ => none
 | k + 1, x0, x1, x5, x6, x7, x8 => if x8 ≤ (x1.size : Int) then (if 0 ≤ (wrap64 ((x1.size : Int) + 1)) then (if (wrap64 ((x1.size : Int) + 1) : Int).toNat ≤ 35184372088832 then ((some (List.replicate (wrap64 ((x1.size : Int) + 1) : Int).toNat 0 : List Int)).bind fun y465 => (if x8 < (x1.size : Int) then (if 0 ≤ x8 then (if (((bt x1 x8) - 48) % 256) = x6 then (if 0 ≤ (wrap64 (x8 + 1)) then (if (wrap64 (x8 + 1)) < (y465.length : Int) then (if x7.length < 5864062014805 then (spec_l08Tables.l1 k x0 x1 x5 x6 (x7 ++ [(y465.set ((wrap64 (x8 + 1)) : Int).toNat 1)]) (wrap64 (x8 + 1))) else (none)) else (none)) else (none)) else (if x7.length < 5864062014805 then (spec_l08Tables.l1 k x0 x1 x5 x6 (x7 ++ [y465]) (wrap64 (x8 + 1))) else (none))) else (none)) else (if x7.length < 5864062014805 then (spec_l08Tables.l1 k x0 x1 x5 x6 (x7 ++ [y465]) (wrap64 (x8 + 1))) else (none)))) else (none)) else (none)) else (if x5.length < 5864062014805 then (spec_l08Tables.l0 k x0 x1 (x5 ++ [x7]) (wrap64 (x6 + 1))) else (none))
end
def spec_l08Tables.f (k : Nat) (a0 : Int) (a1 : ByteArray) : Option ((List (List (List Int)))) := spec_l08Tables.l0 k a0 a1 (([] : List (List (List Int)))) 0
theorem spec_l08Tables.mono_l : ∀ k, (∀ y0 y1 y2 y3, LeO (spec_l08Tables.l0 k y0 y1 y2 y3) (spec_l08Tables.l0 (k + 1) y0 y1 y2 y3)) ∧ (∀ y0 y1 y2 y3 y4 y5, LeO (spec_l08Tables.l1 k y0 y1 y2 y3 y4 y5) (spec_l08Tables.l1 (k + 1) y0 y1 y2 y3 y4 y5))
 | 0 => ⟨fun _ _ _ _ r h => by simp [spec_l08Tables.l0] at h, fun _ _ _ _ _ _ r h => by simp [spec_l08Tables.l1] at h⟩
 | k + 1 => by
  obtain ⟨ih0, ih1⟩ := spec_l08Tables.mono_l k
  refine ⟨?_, ?_⟩
  ·intro y0 y1 y2 y3
   unfold spec_l08Tables.l0
   repeat' first
   | (with_reducible exact ih0 _ _ _ _)
   | (with_reducible exact ih1 _ _ _ _ _ _)
   | (with_reducible exact LeO.refl _)
   | (with_reducible exact LeO.none _)
   | (with_reducible refine LeO.ite ?_ ?_)
   | (with_reducible refine LeO.bind ?_ (fun _ => ?_))
  ·intro y0 y1 y2 y3 y4 y5
   unfold spec_l08Tables.l1
   repeat' first
   | (with_reducible exact ih0 _ _ _ _)
   | (with_reducible exact ih1 _ _ _ _ _ _)
   | (with_reducible exact LeO.refl _)
   | (with_reducible exact LeO.none _)
   | (with_reducible refine LeO.ite ?_ ?_)
   | (with_reducible refine LeO.bind ?_ (fun _ => ?_))
theorem spec_l08Tables.mono : ∀ a0 a1 k, LeO (spec_l08Tables.f k a0 a1) (spec_l08Tables.f (k + 1) a0 a1) := by
 intro a0 a1 k
 obtain ⟨ih0, ih1⟩ := spec_l08Tables.mono_l k
 unfold spec_l08Tables.f
 repeat' first
  | (with_reducible exact ih0 _ _ _ _)
  | (with_reducible exact ih1 _ _ _ _ _ _)
  | (with_reducible exact LeO.refl _)
  | (with_reducible exact LeO.none _)
  | (with_reducible refine LeO.ite ?_ ?_)
  | (with_reducible refine LeO.bind ?_ (fun _ => ?_))
theorem spec_l08Tables.calls (k : Nat) (a0 : Int) (a1 : ByteArray) (r : List (List (List Int))) (w : World) (h : spec_l08Tables.f k a0 a1 = some r) :
 Calls Try.prog 66 #[.int .i64 a0, .string a1] w fun e w' => ∃ v0_ : Value, e = .returned (v0_) ∧ Kd.R (Kd.slice 45 (Kd.slice 2 (Kd.int .i64))) 27 w' w.heap.size (fun _ => True) v0_ r ∧ Below w.heap.size w w' := by
 have HB := zA (Below.refl w.heap.size w)
 have H : (spec_l08Tables.l0 k a0 a1 (([] : List (List (List Int)))) 0) = some r := h
 clear h
 obtain ⟨y459, hy459⟩ : ∃ y_ : List (List (List Int)), y_ = (([] : List (List (List Int)))) := ⟨_, rfl⟩
 replace H : (spec_l08Tables.l0 k a0 a1 y459 0) = some r := by (rw [hy459]; with_reducible exact H)
 have Ny459 := zA hy459
 clear hy459
 have H' := zA H
 clear H
 go_enter Try.func66, Try.ntmps66
 go_wp2_with (first | ((with_reducible refine gate_dst (N := 10) rfl ?_); refine Kd.R_lit (Kd.slice 45 (Kd.slice 2 (Kd.int .i64))) _ 27 ?hg (N := 10) ?hd (xs := ([] : List (List (List Int)))) (inner := []) (ok := fun _ => True) (okp := fun _ => True) ?hr ?hp (fun _ hk => hk) trivial (Below.refl _ _) (Nat.le_refl _) (by simp) ?_; (case hd => rfl); (case hg => rfl); (case hr => (go_simp; done)); (case hp => exact (Reps.none _ _)); intro v460 w3 ho4 hb hg_ hnew_; clear hg_ hnew_; (rw [← Ny459.out] at ho4); have HO461 := zA (Kd.R_lower ho4 (below_size zB)); replace HB := zA (below_step zB hb); clear hb ho4))
 go_loopg [5, 6] k (fun kq v5 v6 w' => ∃ (x5_1 : List (List (List Int))) (x6_1 : Int), v6 = .int .i64 x6_1 ∧ Aside0 (spec_l08Tables.l0 kq a0 a1 x5_1 x6_1 = some r) ∧ Aside0 (kq ≤ k) ∧ Aside0 (Kd.R (Kd.slice 45 (Kd.slice 2 (Kd.int .i64))) 27 w' w.heap.size (fun _ => True) v5 x5_1) ∧ Aside0 (Below w.heap.size w w'))
 case atStart => exact ⟨(y459), (0), (by rfl), H', ⟨Nat.le_refl _⟩, ⟨zR⟩, ⟨zB⟩⟩
 case round =>
  clear H'
  obtain ⟨x5_1, x6_1, rfl, HA, HK1, HO_5, HB⟩ := hrel
  cases gk with
  | zero => exact absurd HA.out (by simp [spec_l08Tables.l0])
  | succ k1 =>
   have H := HA.out
   clear HA
   simp only [spec_l08Tables.l0] at H
   by_cases c5 : x6_1 < a0
   ·rw [if_pos c5] at H
    have c5b0 : decide (x6_1 < a0) = true := decide_eq_true c5
    clear c5
    obtain ⟨y462, hy462⟩ : ∃ y_ : List (List Int), y_ = (([] : List (List Int))) := ⟨_, rfl⟩
    replace H : (spec_l08Tables.l1 k1 a0 a1 x5_1 x6_1 y462 0) = some r := by (rw [hy462]; with_reducible exact H)
    have Ny462 := zA hy462
    clear hy462
    have H' := zA H
    clear H
    go_wp2_with (first | ((with_reducible refine gate_dst (N := 16) rfl ?_); refine Kd.S_lit (Kd.slice 2 (Kd.int .i64)) _ 45 ?hg (N := 16) ?hd (xs := ([] : List (List Int))) (inner := []) (ok := fun _ => True) (okp := fun _ => True) ?hr ?hp (fun _ hk => hk) trivial (Below.refl _ _) (Nat.le_refl _) (by simp) ?_; (case hd => rfl); (case hg => rfl); (case hr => (go_simp; done)); (case hp => exact (Reps.none _ _)); intro v463 w6 ho7 hb hg_ hnew_; clear hg_ hnew_; (rw [← Ny462.out] at ho7); have HO464 := zA (Kd.S_lower ho7 (below_size zB)); replace HO_5 := zA (Kd.R_elder' zR (Kd.S_base ho7) hb); replace HB := zA (below_step zB hb); clear hb ho7))
    go_loopg [7, 8] k1 (fun kq v7 v8 w' => ∃ (x7_2 : List (List Int)) (x8_2 : Int), v8 = .int .i64 x8_2 ∧ Aside0 (spec_l08Tables.l1 kq a0 a1 x5_1 x6_1 x7_2 x8_2 = some r) ∧ Aside0 (kq ≤ k1) ∧ Aside0 (Kd.R (Kd.slice 45 (Kd.slice 2 (Kd.int .i64))) 27 w' w.heap.size (fun k_ => some k_ ≠ (v7 : Value).ownBlock) u5 x5_1) ∧ Aside0 (Kd.S (Kd.slice 2 (Kd.int .i64)) 45 w' w.heap.size (fun _ => True) v7 x7_2) ∧ Aside0 (Below w.heap.size w w'))
    case atStart => exact ⟨(y462), (0), (by rfl), H', ⟨Nat.le_refl _⟩, ⟨by exact Kd.R_mono HO_5.out (fun _ hk => hk.2)⟩, ⟨zS⟩, ⟨zB⟩⟩
    case round =>
     clear H'
     obtain ⟨x7_2, x8_2, rfl, HA, HK2, HO_5, HO_7, HB⟩ := hrel
     cases gk with
     | zero => exact absurd HA.out (by simp [spec_l08Tables.l1])
     | succ k2 =>
      have H := HA.out
      clear HA
      simp only [spec_l08Tables.l1] at H
      by_cases c8 : x8_2 ≤ (a1.size : Int)
      ·rw [if_pos c8] at H
       have c8b0 : decide (x8_2 ≤ (a1.size : Int)) = true := decide_eq_true c8
       clear c8
       obtain ⟨ji9, hji9⟩ : ∃ j_ : Int, (wrap64 ((a1.size : Int) + 1)) = j_ := ⟨_, rfl⟩
       replace H : (if 0 ≤ (ji9) then (if (ji9 : Int).toNat ≤ 35184372088832 then ((some (List.replicate (ji9 : Int).toNat 0 : List Int)).bind fun y465 => (if x8_2 < (a1.size : Int) then (if 0 ≤ x8_2 then (if (((bt a1 x8_2) - 48) % 256) = x6_1 then (if 0 ≤ (wrap64 (x8_2 + 1)) then (if (wrap64 (x8_2 + 1)) < (y465.length : Int) then (if x7_2.length < 5864062014805 then (spec_l08Tables.l1 k2 a0 a1 x5_1 x6_1 (x7_2 ++ [(y465.set ((wrap64 (x8_2 + 1)) : Int).toNat 1)]) (wrap64 (x8_2 + 1))) else (none)) else (none)) else (none)) else (if x7_2.length < 5864062014805 then (spec_l08Tables.l1 k2 a0 a1 x5_1 x6_1 (x7_2 ++ [y465]) (wrap64 (x8_2 + 1))) else (none))) else (none)) else (if x7_2.length < 5864062014805 then (spec_l08Tables.l1 k2 a0 a1 x5_1 x6_1 (x7_2 ++ [y465]) (wrap64 (x8_2 + 1))) else (none)))) else (none)) else (none)) = some r := by (rw [hji9] at H; exact H)
       have hji9w : (IntKind.i64.wrap ((a1.size : Int) + 1)) = ji9 := (i64_w _).trans hji9
       by_cases c10 : 0 ≤ (ji9)
       ·rw [if_pos c10] at H
        have c10b0 := eq_true c10
        have c10b1 : decide (0 ≤ (ji9)) = true := decide_eq_true c10
        clear c10
        by_cases c11 : (ji9 : Int).toNat ≤ 35184372088832
        ·rw [if_pos c11] at H
         have c11b0 := eq_true c11
         have c11b1 : decide ((ji9 : Int).toNat ≤ 35184372088832) = true := decide_eq_true c11
         clear c11
         obtain ⟨y465, hy465⟩ : ∃ y_ : List Int, y_ = (List.replicate (ji9 : Int).toNat 0) := ⟨_, rfl⟩
         replace H : (if x8_2 < (a1.size : Int) then (if 0 ≤ x8_2 then (if (((bt a1 x8_2) - 48) % 256) = x6_1 then (if 0 ≤ (wrap64 (x8_2 + 1)) then (if (wrap64 (x8_2 + 1)) < (y465.length : Int) then (if x7_2.length < 5864062014805 then (spec_l08Tables.l1 k2 a0 a1 x5_1 x6_1 (x7_2 ++ [(y465.set ((wrap64 (x8_2 + 1)) : Int).toNat 1)]) (wrap64 (x8_2 + 1))) else (none)) else (none)) else (none)) else (if x7_2.length < 5864062014805 then (spec_l08Tables.l1 k2 a0 a1 x5_1 x6_1 (x7_2 ++ [y465]) (wrap64 (x8_2 + 1))) else (none))) else (none)) else (if x7_2.length < 5864062014805 then (spec_l08Tables.l1 k2 a0 a1 x5_1 x6_1 (x7_2 ++ [y465]) (wrap64 (x8_2 + 1))) else (none))) = some r := by (have H2_ := (Option.bind_some _ _).symm.trans H; rw [hy465]; with_reducible exact H2_)
         have Ny465 := zA hy465
         clear hy465
         by_cases c12 : x8_2 < (a1.size : Int)
         ·rw [if_pos c12] at H
          have c12b0 : decide (x8_2 < (a1.size : Int)) = true := decide_eq_true c12
          clear c12
          by_cases c13 : 0 ≤ x8_2
          ·rw [if_pos c13] at H
           have c13b0 : decide (0 ≤ x8_2) = true := decide_eq_true c13
           clear c13
           by_cases c15 : (((bt a1 x8_2) - 48) % 256) = x6_1
           ·rw [if_pos c15] at H
            have c15b0 : ((((bt a1 x8_2) - 48) % 256) == x6_1) = true := beq_iff_eq.mpr c15
            have c15b1 : ((((bt a1 x8_2) - 48) % 256) != x6_1) = false := bne_eq_false_iff_eq.mpr c15
            clear c15
            obtain ⟨ji16, hji16⟩ : ∃ j_ : Int, (wrap64 (x8_2 + 1)) = j_ := ⟨_, rfl⟩
            replace H : (if 0 ≤ (ji16) then (if (ji16) < (y465.length : Int) then (if x7_2.length < 5864062014805 then (spec_l08Tables.l1 k2 a0 a1 x5_1 x6_1 (x7_2 ++ [(y465.set ((ji16) : Int).toNat 1)]) ji16) else (none)) else (none)) else (none)) = some r := by (rw [hji16] at H; exact H)
            have hji16w : (IntKind.i64.wrap (x8_2 + 1)) = ji16 := (i64_w _).trans hji16
            by_cases c17 : 0 ≤ (ji16)
            ·rw [if_pos c17] at H
             have c17b0 : decide (0 ≤ (ji16)) = true := decide_eq_true c17
             clear c17
             by_cases c18 : (ji16) < (y465.length : Int)
             ·rw [if_pos c18] at H
              have c18b0 : decide ((ji16) < (y465.length : Int)) = true := decide_eq_true c18
              clear c18
              obtain ⟨y468, hy468⟩ : ∃ y_ : List Int, y_ = (y465.set ((ji16) : Int).toNat 1) := ⟨_, rfl⟩
              replace H : (if x7_2.length < 5864062014805 then (spec_l08Tables.l1 k2 a0 a1 x5_1 x6_1 (x7_2 ++ [y468]) ji16) else (none)) = some r := by (rw [hy468]; with_reducible exact H)
              have Ny468 := zA hy468
              clear hy468
              by_cases c20 : x7_2.length < 5864062014805
              ·rw [if_pos c20] at H
               have LMc20 := zA c20
               clear c20
               obtain ⟨y469, hy469⟩ : ∃ y_ : List (List Int), y_ = (x7_2 ++ [y468]) := ⟨_, rfl⟩
               replace H : (spec_l08Tables.l1 k2 a0 a1 x5_1 x6_1 y469 ji16) = some r := by (rw [hy469]; with_reducible exact H)
               have Ny469 := zA hy469
               clear hy469
               have H' := zA H
               clear H
               go_wp2_with (first | ((with_reducible refine gate_dst (N := 26) rfl ?_); refine Kd.R_make (Kd.int .i64) _ 2 rfl (N := 26) rfl 45 _ _ rfl ji9 rfl rfl Try.underlying45 (.int .i64 0) 8 info2 rfl (by decide) (by omega) 0 (ok := fun _ => True) (okp := fun _ => True) rfl (fun _ hk => hk) trivial (zD) (Nat.le_trans (Nat.mul_le_mul_right _ (zD : ji9.toNat ≤ 35184372088832)) (by omega)) (Below.refl _ _) (Nat.le_refl _) ?_; intro v466 w21 ho22 hb hg_ hnew_; clear hg_ hnew_; (rw [← Ny465.out] at ho22); have HO467 := zA (Kd.R_lower ho22 (below_size zB)); replace HO_5 := zA (Kd.R_elder' zR (Kd.R_base ho22) hb); replace HO_7 := zA (Kd.S_elder' zS (Kd.R_base ho22) hb); replace HB := zA (below_step zB hb); clear hb ho22; have p14 : 0 ≤ (x8_2 : Int) := zD; have q14 : x8_2 < (a1.size : Int) := zD; have hx14 := bt_at a1 x8_2; replace p14 := eq_true p14; replace q14 := eq_true q14; have p19 : 0 ≤ ((ji16) : Int) := zD; have q19 : ((ji16) : Int) < ((y465.length : Int) : Int) := zD; obtain ⟨go19, co19, eo19, gb19, gl19, cl19, HG19⟩ := Kd.R_form HO467.out (by omega); (cases eo19); have GB19 := zA gb19; have GG19 := zA HG19; clear gb19 gl19 HG19; obtain ⟨hx19_0, hf19_0⟩ := Kd.R_celln 0 HO467.out ((ji16) : Int) p19 q19; replace p19 := eq_true p19; replace q19 := eq_true q19; obtain ⟨hy23_, hz23_⟩ := Kd.R_celln 0 HO467.out ((ji16) : Int) (zD) (zD); have HP23 := Kd.R_putg HO467.out ((ji16) : Int) 1) | ((with_reducible refine gate_store (t := 2) (p := 43) rfl ?_); refine store_event (t := 2) (p := 43) (v := ?vo_w24) (w1 := (w21.setCell ⟨go19, ((ji16) : Int).toNat, none⟩ (.int .i64 1))) ?hg ?ho ?hn ?hr ?_; (case ho => rfl); (case hg => rfl); (case hn => rfl); (case hr => (go_simp; done)); intro w24 hw; have hg : w21.grownBy w24 (some go19) := (by rw [hw]; exact HP23.2); have hp_ : Kd.R (Kd.int .i64) 2 w24 w.heap.size (fun _ => True) (.slice (some ⟨go19, 0, none⟩) y465.length co19) y468 := (by rw [hw, Ny468.out]; exact HP23.1); clear HP23; replace HO_5 := zA (Kd.R_after (v := (.slice (some ⟨go19, 0, none⟩) y465.length co19)) (v1 := (.slice (some ⟨go19, 0, none⟩) y465.length co19)) (ok := (fun k_ => some k_ ≠ (u7 : Value).ownBlock)) zR hg (.inl rfl)); replace HO_7 := zA (Kd.S_after (v := (.slice (some ⟨go19, 0, none⟩) y465.length co19)) (v1 := (.slice (some ⟨go19, 0, none⟩) y465.length co19)) (ok := (fun _ => True)) zS hg (.inl rfl)); replace HO467 := zA (hp_); replace HB := zA ((by rw [hw]; exact below_set (HB.out) GB19.out : Below w.heap.size w w24)); clear hg hw hp_) | ((with_reducible refine gate_builtin (b := .append) (xs := #[.tmp 44, .tmp 46]) rfl ?_); at_builtin; refine Kd.S_append (Kd.slice 2 (Kd.int .i64)) (w0 := w) w.heap.size rfl (.tmp 44) (.tmp 46) 27 45 (.slice none 0 0) 24 rfl Try.underlying27 info45 rfl (by decide) (by omega) u7 x7_2 y468 [.slice (some ⟨go19, 0, none⟩) y465.length co19] (fun _ => True) (fun k_ => some k_ = (.slice (some ⟨go19, 0, none⟩) y465.length co19 : Value).ownBlock) rfl rfl ?aP (fun k_ hk_ => ((Kd.R_mono (ok' := fun k_ => ((fun _ => True)) k_ ∧ some k_ ≠ (u7 : Value).ownBlock) (Kd.R_apart' (HO467.out) (Kd.S_typed HO_7.out) (by decide)) (fun k_ hk => ⟨trivial, hk.2⟩))).1 k_ hk_.symm) ?aF ?aO ?aB ?aS ?aL ?_; (case aP => exact Kd.M_row (Kd.R_mono (Kd.R_tight rfl (Kd.R_mono (ok' := fun k_ => ((fun _ => True)) k_ ∧ some k_ ≠ (u7 : Value).ownBlock) (Kd.R_apart' (HO467.out) (Kd.S_typed HO_7.out) (by decide)) (fun k_ hk => ⟨trivial, hk.2⟩))) (fun _ h_ => h_))); (case aB => exact zB); (case aF => exact (fun _ _ => trivial)); (case aO => exact (by exact Kd.S_mono HO_7.out (fun k_ hk => ⟨trivial, fun e_ => hk.2 e_⟩))); (case aS => exact (below_size zB)); (case aL => have := LMc20.out; omega); intro v470 w25 ho hb hg hat; rw [← Ny469.out] at ho; have HO471 := zA (ho); replace HO_5 := zA (Kd.R_after (ok := (fun k_ => some k_ ≠ (.slice (some ⟨go19, 0, none⟩) y465.length co19 : Value).ownBlock)) (by exact Kd.R_mono HO_5.out (fun _ hk => ⟨hk.2, hk.1⟩)) hg hat); replace HB := zA (hb); clear HO_7 HO467; clear ho hb hg hat))
               go_roundg k2
               case measure => have := HK1.out; have := HK2.out; omega
               case rel => exact ⟨(y469), (ji16), (by rfl), H', ⟨by have := HK1.out; have := HK2.out; omega⟩, ⟨by exact Kd.R_mono HO_5.out (fun _ hk => hk.2)⟩, ⟨zS⟩, ⟨zB⟩⟩
              ·rw [if_neg c20] at H
               exact absurd H (by simp)
             ·rw [if_neg c18] at H
              exact absurd H (by simp)
            ·rw [if_neg c17] at H
             exact absurd H (by simp)
           ·rw [if_neg c15] at H
            have c15b0 : ((((bt a1 x8_2) - 48) % 256) == x6_1) = false := beq_eq_false_iff_ne.mpr c15
            have c15b1 : ((((bt a1 x8_2) - 48) % 256) != x6_1) = true := bne_iff_ne.mpr c15
            by_cases c26 : x7_2.length < 5864062014805
            ·rw [if_pos c26] at H
             have LMc26 := zA c26
             clear c26
             obtain ⟨y472, hy472⟩ : ∃ y_ : List (List Int), y_ = (x7_2 ++ [y465]) := ⟨_, rfl⟩
             replace H : (spec_l08Tables.l1 k2 a0 a1 x5_1 x6_1 y472 (wrap64 (x8_2 + 1))) = some r := by (rw [hy472]; with_reducible exact H)
             have Ny472 := zA hy472
             clear hy472
             have H' := zA H
             clear H
             go_wp2_with (first | ((with_reducible refine gate_dst (N := 26) rfl ?_); refine Kd.R_make (Kd.int .i64) _ 2 rfl (N := 26) rfl 45 _ _ rfl ji9 rfl rfl Try.underlying45 (.int .i64 0) 8 info2 rfl (by decide) (by omega) 0 (ok := fun _ => True) (okp := fun _ => True) rfl (fun _ hk => hk) trivial (zD) (Nat.le_trans (Nat.mul_le_mul_right _ (zD : ji9.toNat ≤ 35184372088832)) (by omega)) (Below.refl _ _) (Nat.le_refl _) ?_; intro v466 w27 ho28 hb hg_ hnew_; clear hg_ hnew_; (rw [← Ny465.out] at ho28); have HO467 := zA (Kd.R_lower ho28 (below_size zB)); replace HO_5 := zA (Kd.R_elder' zR (Kd.R_base ho28) hb); replace HO_7 := zA (Kd.S_elder' zS (Kd.R_base ho28) hb); replace HB := zA (below_step zB hb); clear hb ho28; have p14 : 0 ≤ (x8_2 : Int) := zD; have q14 : x8_2 < (a1.size : Int) := zD; have hx14 := bt_at a1 x8_2; replace p14 := eq_true p14; replace q14 := eq_true q14; obtain ⟨Ao30, co30, eo30⟩ := Kd.R_slice HO467.out; subst eo30) | ((with_reducible refine gate_builtin (b := .append) (xs := #[.tmp 44, .tmp 46]) rfl ?_); at_builtin; refine Kd.S_append (Kd.slice 2 (Kd.int .i64)) (w0 := w) w.heap.size rfl (.tmp 44) (.tmp 46) 27 45 (.slice none 0 0) 24 rfl Try.underlying27 info45 rfl (by decide) (by omega) u7 x7_2 y465 [.slice Ao30 y465.length co30] (fun _ => True) (fun k_ => some k_ = (.slice Ao30 y465.length co30 : Value).ownBlock) rfl rfl ?aP (fun k_ hk_ => ((Kd.R_mono (ok' := fun k_ => ((fun _ => True)) k_ ∧ some k_ ≠ (u7 : Value).ownBlock) (Kd.R_apart' (HO467.out) (Kd.S_typed HO_7.out) (by decide)) (fun k_ hk => ⟨trivial, hk.2⟩))).1 k_ hk_.symm) ?aF ?aO ?aB ?aS ?aL ?_; (case aP => exact Kd.M_row (Kd.R_mono (Kd.R_tight rfl (Kd.R_mono (ok' := fun k_ => ((fun _ => True)) k_ ∧ some k_ ≠ (u7 : Value).ownBlock) (Kd.R_apart' (HO467.out) (Kd.S_typed HO_7.out) (by decide)) (fun k_ hk => ⟨trivial, hk.2⟩))) (fun _ h_ => h_))); (case aB => exact zB); (case aF => exact (fun _ _ => trivial)); (case aO => exact (by exact Kd.S_mono HO_7.out (fun k_ hk => ⟨trivial, fun e_ => hk.2 e_⟩))); (case aS => exact (below_size zB)); (case aL => have := LMc26.out; omega); intro v473 w29 ho hb hg hat; rw [← Ny472.out] at ho; have HO474 := zA (ho); replace HO_5 := zA (Kd.R_after (ok := (fun k_ => some k_ ≠ (.slice Ao30 y465.length co30 : Value).ownBlock)) (by exact Kd.R_mono HO_5.out (fun _ hk => ⟨hk.2, hk.1⟩)) hg hat); replace HB := zA (hb); clear HO_7 HO467; clear ho hb hg hat))
             go_roundg k2
             case measure => have := HK1.out; have := HK2.out; omega
             case rel => exact ⟨(y472), (wrap64 (x8_2 + 1)), (by rfl), H', ⟨by have := HK1.out; have := HK2.out; omega⟩, ⟨by exact Kd.R_mono HO_5.out (fun _ hk => hk.2)⟩, ⟨zS⟩, ⟨zB⟩⟩
            ·rw [if_neg c26] at H
             exact absurd H (by simp)
          ·rw [if_neg c13] at H
           exact absurd H (by simp)
         ·rw [if_neg c12] at H
          have c12b0 : decide (x8_2 < (a1.size : Int)) = false := decide_eq_false c12
          clear c12
          by_cases c31 : x7_2.length < 5864062014805
          ·rw [if_pos c31] at H
           have LMc31 := zA c31
           clear c31
           obtain ⟨y475, hy475⟩ : ∃ y_ : List (List Int), y_ = (x7_2 ++ [y465]) := ⟨_, rfl⟩
           replace H : (spec_l08Tables.l1 k2 a0 a1 x5_1 x6_1 y475 (wrap64 (x8_2 + 1))) = some r := by (rw [hy475]; with_reducible exact H)
           have Ny475 := zA hy475
           clear hy475
           have H' := zA H
           clear H
           go_wp2_with (first | ((with_reducible refine gate_dst (N := 26) rfl ?_); refine Kd.R_make (Kd.int .i64) _ 2 rfl (N := 26) rfl 45 _ _ rfl ji9 rfl rfl Try.underlying45 (.int .i64 0) 8 info2 rfl (by decide) (by omega) 0 (ok := fun _ => True) (okp := fun _ => True) rfl (fun _ hk => hk) trivial (zD) (Nat.le_trans (Nat.mul_le_mul_right _ (zD : ji9.toNat ≤ 35184372088832)) (by omega)) (Below.refl _ _) (Nat.le_refl _) ?_; intro v466 w32 ho33 hb hg_ hnew_; clear hg_ hnew_; (rw [← Ny465.out] at ho33); have HO467 := zA (Kd.R_lower ho33 (below_size zB)); replace HO_5 := zA (Kd.R_elder' zR (Kd.R_base ho33) hb); replace HO_7 := zA (Kd.S_elder' zS (Kd.R_base ho33) hb); replace HB := zA (below_step zB hb); clear hb ho33; obtain ⟨Ao35, co35, eo35⟩ := Kd.R_slice HO467.out; subst eo35) | ((with_reducible refine gate_builtin (b := .append) (xs := #[.tmp 44, .tmp 46]) rfl ?_); at_builtin; refine Kd.S_append (Kd.slice 2 (Kd.int .i64)) (w0 := w) w.heap.size rfl (.tmp 44) (.tmp 46) 27 45 (.slice none 0 0) 24 rfl Try.underlying27 info45 rfl (by decide) (by omega) u7 x7_2 y465 [.slice Ao35 y465.length co35] (fun _ => True) (fun k_ => some k_ = (.slice Ao35 y465.length co35 : Value).ownBlock) rfl rfl ?aP (fun k_ hk_ => ((Kd.R_mono (ok' := fun k_ => ((fun _ => True)) k_ ∧ some k_ ≠ (u7 : Value).ownBlock) (Kd.R_apart' (HO467.out) (Kd.S_typed HO_7.out) (by decide)) (fun k_ hk => ⟨trivial, hk.2⟩))).1 k_ hk_.symm) ?aF ?aO ?aB ?aS ?aL ?_; (case aP => exact Kd.M_row (Kd.R_mono (Kd.R_tight rfl (Kd.R_mono (ok' := fun k_ => ((fun _ => True)) k_ ∧ some k_ ≠ (u7 : Value).ownBlock) (Kd.R_apart' (HO467.out) (Kd.S_typed HO_7.out) (by decide)) (fun k_ hk => ⟨trivial, hk.2⟩))) (fun _ h_ => h_))); (case aB => exact zB); (case aF => exact (fun _ _ => trivial)); (case aO => exact (by exact Kd.S_mono HO_7.out (fun k_ hk => ⟨trivial, fun e_ => hk.2 e_⟩))); (case aS => exact (below_size zB)); (case aL => have := LMc31.out; omega); intro v476 w34 ho hb hg hat; rw [← Ny475.out] at ho; have HO477 := zA (ho); replace HO_5 := zA (Kd.R_after (ok := (fun k_ => some k_ ≠ (.slice Ao35 y465.length co35 : Value).ownBlock)) (by exact Kd.R_mono HO_5.out (fun _ hk => ⟨hk.2, hk.1⟩)) hg hat); replace HB := zA (hb); clear HO_7 HO467; clear ho hb hg hat))
           go_roundg k2
           case measure => have := HK1.out; have := HK2.out; omega
           case rel => exact ⟨(y475), (wrap64 (x8_2 + 1)), (by rfl), H', ⟨by have := HK1.out; have := HK2.out; omega⟩, ⟨by exact Kd.R_mono HO_5.out (fun _ hk => hk.2)⟩, ⟨zS⟩, ⟨zB⟩⟩
          ·rw [if_neg c31] at H
           exact absurd H (by simp)
        ·rw [if_neg c11] at H
         exact absurd H (by simp)
       ·rw [if_neg c10] at H
        exact absurd H (by simp)
      ·rw [if_neg c8] at H
       have c8b0 : decide (x8_2 ≤ (a1.size : Int)) = false := decide_eq_false c8
       clear c8
       by_cases c36 : x5_1.length < 5864062014805
       ·rw [if_pos c36] at H
        have LMc36 := zA c36
        clear c36
        obtain ⟨y478, hy478⟩ : ∃ y_ : List (List (List Int)), y_ = (x5_1 ++ [x7_2]) := ⟨_, rfl⟩
        replace H : (spec_l08Tables.l0 k2 a0 a1 y478 (wrap64 (x6_1 + 1))) = some r := by (rw [hy478]; with_reducible exact H)
        have Ny478 := zA hy478
        clear hy478
        have H' := zA H
        clear H
        obtain ⟨Ao38, co38, eo38⟩ := Kd.S_slice HO_7.out
        subst eo38
        go_wp2_with (first | ((with_reducible refine gate_builtin (b := .append) (xs := #[.tmp 48, .tmp 50]) rfl ?_); at_builtin; refine Kd.R_append (Kd.slice 45 (Kd.slice 2 (Kd.int .i64))) (w0 := w) w.heap.size rfl (.tmp 48) (.tmp 50) 24 27 (.slice none 0 0) 24 rfl Try.underlying24 info27 rfl (by decide) (by omega) u5 x5_1 x7_2 [.slice Ao38 x7_2.length co38] (fun _ => True) (fun k_ => ((fun _ => True)) k_ ∧ some k_ ≠ (u5 : Value).ownBlock) rfl rfl ?aP (fun _ hk => hk) ?aF ?aO ?aB ?aS ?aL ?_; (case aP => exact Kd.M_row (Kd.R_mono (Kd.R_apart' ((Kd.S_R HO_7.out)) (Kd.R_typed HO_5.out) (by decide)) (fun k_ hk => ⟨trivial, hk.2⟩))); (case aB => exact zB); (case aF => exact (fun _ _ => trivial)); (case aO => exact (by exact Kd.R_mono HO_5.out (fun _ hk => trivial))); (case aS => exact (below_size zB)); (case aL => have := LMc36.out; omega); intro v479 w37 ho hb hg hat; rw [← Ny478.out] at ho; have HO480 := zA (ho); replace HB := zA (hb); clear HO_5 HO_7; clear ho hb hg hat))
        go_roundg k2
        case measure => have := HK1.out; have := HK2.out; omega
        case rel => exact ⟨(y478), (wrap64 (x6_1 + 1)), (by rfl), H', ⟨by have := HK1.out; have := HK2.out; omega⟩, ⟨zR⟩, ⟨zB⟩⟩
       ·rw [if_neg c36] at H
        exact absurd H (by simp)
   ·rw [if_neg c5] at H
    have c5b0 : decide (x6_1 < a0) = false := decide_eq_false c5
    clear c5
    obtain rfl := Option.some.inj H
    go_wp2
    go_ret
    exact ⟨_, by rfl, zR, zB⟩

/-! ### spec_TablesOfWord: function 20 -/
def spec_TablesOfWord.f (k : Nat) (a0 : Int) (a1 : ByteArray) : Option ((List (List (List Int))) × Int) := (spec_l01In.f a0 1 3).bind fun t481 => (if t481 = true then ((spec_l01Word.f k a0 a1).bind fun t482 => (if t482 = true then (if (a1.size : Int) > 5 then (some (([] : List (List (List Int))), 2)) else ((spec_l08Tables.f k a0 a1).bind fun t483 => (some (t483, 0)))) else (some (([] : List (List (List Int))), 1)))) else (some (([] : List (List (List Int))), 2)))
theorem spec_TablesOfWord.mono : ∀ a0 a1 k, LeO (spec_TablesOfWord.f k a0 a1) (spec_TablesOfWord.f (k + 1) a0 a1) := by
 intro a0 a1 k
 unfold spec_TablesOfWord.f
 repeat' first
  | (with_reducible exact spec_l01Word.mono _ _ _)
  | (with_reducible exact spec_l08Tables.mono _ _ _)
  | (with_reducible exact LeO.refl _)
  | (with_reducible exact LeO.none _)
  | (with_reducible refine LeO.ite ?_ ?_)
  | (with_reducible refine LeO.bind ?_ (fun _ => ?_))
theorem spec_TablesOfWord.calls (k : Nat) (a0 : Int) (a1 : ByteArray) (r1 : List (List (List Int))) (r2 : Int) (w : World) (h : spec_TablesOfWord.f k a0 a1 = some (r1, r2)) :
 Calls Try.prog 20 #[.int .i64 a0, .string a1] w fun e w' => ∃ v0_ : Value, e = .returned (.tuple #[v0_, .int .i64 r2]) ∧ Kd.R (Kd.slice 45 (Kd.slice 2 (Kd.int .i64))) 27 w' w.heap.size (fun _ => True) v0_ r1 ∧ Below w.heap.size w w' := by
 have HB := zA (Below.refl w.heap.size w)
 have H : ((spec_l01In.f a0 1 3).bind fun t481 => (if t481 = true then ((spec_l01Word.f k a0 a1).bind fun t482 => (if t482 = true then (if (a1.size : Int) > 5 then (some (([] : List (List (List Int))), 2)) else ((spec_l08Tables.f k a0 a1).bind fun t483 => (some (t483, 0)))) else (some (([] : List (List (List Int))), 1)))) else (some (([] : List (List (List Int))), 2)))) = some (r1, r2) := h
 clear h
 replace H := Option.bind_eq_some_iff.mp H
 obtain ⟨t481, A30, H⟩ := H
 replace H : (if t481 = true then ((spec_l01Word.f k a0 a1).bind fun t482 => (if t482 = true then (if (a1.size : Int) > 5 then (some (([] : List (List (List Int))), 2)) else ((spec_l08Tables.f k a0 a1).bind fun t483 => (some (t483, 0)))) else (some (([] : List (List (List Int))), 1)))) else (some (([] : List (List (List Int))), 2))) = some (r1, r2) := H
 have A3 := zA A30
 clear A30
 by_cases c4 : t481 = true
 ·subst c4
  have H1 : ((spec_l01Word.f k a0 a1).bind fun t482 => (if t482 = true then (if (a1.size : Int) > 5 then (some (([] : List (List (List Int))), 2)) else ((spec_l08Tables.f k a0 a1).bind fun t483 => (some (t483, 0)))) else (some (([] : List (List (List Int))), 1)))) = some (r1, r2) := by rw [if_pos rfl] at H; exact H
  clear H
  have H := H1
  clear H1
  replace H := Option.bind_eq_some_iff.mp H
  obtain ⟨t482, A50, H⟩ := H
  replace H : (if t482 = true then (if (a1.size : Int) > 5 then (some (([] : List (List (List Int))), 2)) else ((spec_l08Tables.f k a0 a1).bind fun t483 => (some (t483, 0)))) else (some (([] : List (List (List Int))), 1))) = some (r1, r2) := H
  have A5 := zA A50
  clear A50
  by_cases c6 : t482 = true
  ·subst c6
   have H1 : (if (a1.size : Int) > 5 then (some (([] : List (List (List Int))), 2)) else ((spec_l08Tables.f k a0 a1).bind fun t483 => (some (t483, 0)))) = some (r1, r2) := by rw [if_pos rfl] at H; exact H
   clear H
   have H := H1
   clear H1
   by_cases c7 : (a1.size : Int) > 5
   ·rw [if_pos c7] at H
    have c7b0 : decide (5 < (a1.size : Int)) = true := decide_eq_true c7
    have c7b1 : decide (5 < a1.size) = true := decide_eq_true (by omega)
    clear c7
    simp only [Option.some.injEq, Prod.mk.injEq] at H
    obtain ⟨rfl, rfl⟩ := H
    go_enter Try.func20, Try.ntmps20
    go_wp2_with (first | ((with_reducible refine gate_callee (f := 61) rfl ?_); refine goesL_ (some 8) rfl rfl Try.func61 (by kernel_rfl) rfl #[.int .i64 a0, .int .i64 1, .int .i64 3] rfl zM ?_; (with_reducible refine (spec_l01In.calls a0 1 3 true _ A3.out).mono ?_); rintro e w' ⟨rfl, ⟨nd, rfl⟩⟩; refine ⟨_, rfl, ?_⟩) | ((with_reducible refine gate_callee (f := 49) rfl ?_); refine goesL_ (some 13) rfl rfl Try.func49 (by kernel_rfl) rfl #[.int .i64 a0, .string a1] rfl zM ?_; (with_reducible refine (spec_l01Word.calls k a0 a1 true _ A5.out).mono ?_); rintro e w' ⟨rfl, ⟨nd, rfl⟩⟩; refine ⟨_, rfl, ?_⟩))
    go_ret2
    exact ⟨_, by rfl, by exact Kd.R_nil _ _ _ _ _, zB⟩
   ·rw [if_neg c7] at H
    have c7b0 : decide (5 < (a1.size : Int)) = false := decide_eq_false c7
    have c7b1 : decide (5 < a1.size) = false := decide_eq_false (by omega)
    clear c7
    replace H := Option.bind_eq_some_iff.mp H
    obtain ⟨t483, A80, H⟩ := H
    replace H : (some (t483, 0)) = some (r1, r2) := H
    have A8 := zA A80
    clear A80
    simp only [Option.some.injEq, Prod.mk.injEq] at H
    obtain ⟨rfl, rfl⟩ := H
    go_enter Try.func20, Try.ntmps20
    go_wp2_with (first | ((with_reducible refine gate_callee (f := 61) rfl ?_); refine goesL_ (some 8) rfl rfl Try.func61 (by kernel_rfl) rfl #[.int .i64 a0, .int .i64 1, .int .i64 3] rfl zM ?_; (with_reducible refine (spec_l01In.calls a0 1 3 true _ A3.out).mono ?_); rintro e w' ⟨rfl, ⟨nd, rfl⟩⟩; refine ⟨_, rfl, ?_⟩) | ((with_reducible refine gate_callee (f := 49) rfl ?_); refine goesL_ (some 13) rfl rfl Try.func49 (by kernel_rfl) rfl #[.int .i64 a0, .string a1] rfl zM ?_; (with_reducible refine (spec_l01Word.calls k a0 a1 true _ A5.out).mono ?_); rintro e w' ⟨rfl, ⟨nd, rfl⟩⟩; refine ⟨_, rfl, ?_⟩) | ((with_reducible refine gate_callee (f := 66) rfl ?_); refine goesL_ (some 21) rfl rfl Try.func66 (by kernel_rfl) rfl #[.int .i64 a0, .string a1] rfl zM ?_; (with_reducible refine (spec_l08Tables.calls k a0 a1 t483 _ A8.out).mono ?_); rintro e w9 ⟨v484, rfl, ho0, hb⟩; refine ⟨_, rfl, ?_⟩; have HO485 := zA (Kd.R_lower ho0 (below_size zB)); replace HB := zA (below_step zB hb); (try clear hb); (try clear hb2); (try clear hk); (try clear hi); (try clear ho0)))
    go_ret2
    exact ⟨_, by rfl, zR, zB⟩
  ·replace c6 := Bool.eq_false_iff.mpr c6
   subst c6
   have H1 : (some (([] : List (List (List Int))), 1)) = some (r1, r2) := by rw [if_neg (show ¬ (false = true) by decide)] at H; exact H
   clear H
   have H := H1
   clear H1
   simp only [Option.some.injEq, Prod.mk.injEq] at H
   obtain ⟨rfl, rfl⟩ := H
   go_enter Try.func20, Try.ntmps20
   go_wp2_with (first | ((with_reducible refine gate_callee (f := 61) rfl ?_); refine goesL_ (some 8) rfl rfl Try.func61 (by kernel_rfl) rfl #[.int .i64 a0, .int .i64 1, .int .i64 3] rfl zM ?_; (with_reducible refine (spec_l01In.calls a0 1 3 true _ A3.out).mono ?_); rintro e w' ⟨rfl, ⟨nd, rfl⟩⟩; refine ⟨_, rfl, ?_⟩) | ((with_reducible refine gate_callee (f := 49) rfl ?_); refine goesL_ (some 13) rfl rfl Try.func49 (by kernel_rfl) rfl #[.int .i64 a0, .string a1] rfl zM ?_; (with_reducible refine (spec_l01Word.calls k a0 a1 false _ A5.out).mono ?_); rintro e w' ⟨rfl, ⟨nd, rfl⟩⟩; refine ⟨_, rfl, ?_⟩))
   go_ret2
   exact ⟨_, by rfl, by exact Kd.R_nil _ _ _ _ _, zB⟩
 ·replace c4 := Bool.eq_false_iff.mpr c4
  subst c4
  have H1 : (some (([] : List (List (List Int))), 2)) = some (r1, r2) := by rw [if_neg (show ¬ (false = true) by decide)] at H; exact H
  clear H
  have H := H1
  clear H1
  simp only [Option.some.injEq, Prod.mk.injEq] at H
  obtain ⟨rfl, rfl⟩ := H
  go_enter Try.func20, Try.ntmps20
  go_wp2_with (first | ((with_reducible refine gate_callee (f := 61) rfl ?_); refine goesL_ (some 8) rfl rfl Try.func61 (by kernel_rfl) rfl #[.int .i64 a0, .int .i64 1, .int .i64 3] rfl zM ?_; (with_reducible refine (spec_l01In.calls a0 1 3 false _ A3.out).mono ?_); rintro e w' ⟨rfl, ⟨nd, rfl⟩⟩; refine ⟨_, rfl, ?_⟩))
  go_ret2
  exact ⟨_, by rfl, by exact Kd.R_nil _ _ _ _ _, zB⟩


end Go.Proofs.Ytkbneilobaehkaa.P
