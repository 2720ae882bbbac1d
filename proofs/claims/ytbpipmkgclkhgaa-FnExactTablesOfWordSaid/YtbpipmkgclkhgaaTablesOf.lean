/- impl.tablesOf and impl.TablesOfWord: what calls of them come to. -/
import Derived.Test.YtbpipmkgclkhgaaPx3
import Derived.Test.YtbpipmkgclkhgaaNest3
namespace Go.Proofs.Ytbpipmkgclkhgaa.Nest
open Go.RowKit Go.Proofs.Ytbpipmkgclkhgaa.P Go.Proofs.Ytbpipmkgclkhgaa.Pure Go.Proofs.YtbpipmkgclkhgaaW.PrintWords Go.Proofs.YtbpipmkgclkhgaaW.PrintLast Go.Proofs.YtbpipmkgclkhgaaW.PrintMore
set_option linter.unusedVariables false
set_option linter.unusedSimpArgs false

/-- The letters' entries are stored. -/
def tablesL1 : Nat → ByteArray → List (List (List Int)) → Int → Option (List (List (List Int)))
  | 0, _, _, _ => none
  | k + 1, s, x, i => if i < (s.size : Int) then (if 0 ≤ i then (if 0 ≤ (((bt s i) - 48) % 256) then (if (((bt s i) - 48) % 256) < (x.length : Int) then (if i < ((rd_L2 x (((bt s i) - 48) % 256)).length : Int) then (if 0 ≤ wrap64 (i + 1) then (if wrap64 (i + 1) < ((rd_L1 (rd_L2 x (((bt s i) - 48) % 256)) i).length : Int) then tablesL1 k s (x.set (((bt s i) - 48) % 256).toNat ((rd_L2 x (((bt s i) - 48) % 256)).set i.toNat ((rd_L1 (rd_L2 x (((bt s i) - 48) % 256)) i).set (wrap64 (i + 1)).toNat 1))) (wrap64 (i + 1)) else none) else none) else none) else none) else none) else none) else some x
/-- A square for each letter. -/
def tablesL0 : Nat → Int → ByteArray → List (List (List Int)) → Int → Option (List (List (List Int)))
  | 0, _, _, _, _ => none
  | k + 1, d, s, x, i => if i < d then ((impl_square.f k (wrap64 ((s.size : Int) + 1))).bind fun t => (if x.length < 5864062014805 then tablesL0 k d s (x ++ [t]) (wrap64 (i + 1)) else none)) else tablesL1 k s x 0
set_option maxHeartbeats 16000000 in
set_option maxRecDepth 100000 in
theorem tablesOf_calls (k : Nat) (a0 : Int) (a1 : ByteArray) (r : List (List (List Int))) (w : World) (h : tablesL0 k a0 a1 [] 0 = some r) :
    Calls Try.prog 61 #[.int .i64 a0, .string a1] w fun e w' => ∃ v0_ : Value, e = .returned v0_ ∧ Kd.S (sliceS 44 (Kd.slice 2 (Kd.int .i64))) 34 w' w.heap.size (fun k_ => w.heap.size ≤ k_) v0_ r ∧ Below w.heap.size w w' := by
  have H' := Aside0.mk h
  clear h
  go_enter Try.func61, Try.ntmps61
  go_wp2
  go_loopg [5, 8] k (fun kq v5 v8 w' => ∃ (x5 : List (List (List Int))) (x8 : Int), v8 = .int .i64 x8 ∧ Aside0 (tablesL0 kq a0 a1 x5 x8 = some r) ∧ Aside0 (kq ≤ k) ∧ Aside0 (Kd.S (sliceS 44 (Kd.slice 2 (Kd.int .i64))) 34 w' w.heap.size (fun k_ => w.heap.size ≤ k_) v5 x5) ∧ Aside0 (Below w.heap.size w w'))
  case atStart => exact ⟨[], 0, rfl, H', ⟨Nat.le_refl _⟩, ⟨Kd.S_nil _ _ _ _ _⟩, ⟨Below.refl _ _⟩⟩
  case round =>
    clear H'
    obtain ⟨x5, x8, rfl, HA, HK1, HO, HB⟩ := hrel
    cases gk with
    | zero => exact absurd HA.out (by simp [tablesL0])
    | succ k1 =>
      have H := HA.out
      clear HA
      simp only [tablesL0] at H
      by_cases c6 : x8 < a0
      · rw [if_pos c6] at H
        obtain ⟨t, A8, H⟩ := Option.bind_eq_some_iff.mp H
        by_cases c9 : x5.length < 5864062014805
        · rw [if_pos c9] at H
          have A8 := Aside0.mk A8
          have H' := Aside0.mk H
          have C9 := Aside0.mk c9
          have c6b0 : decide (x8 < a0) = true := decide_eq_true c6
          clear c6 c9 H
          go_wp2_with (first | (go_at_call 100; refine (impl_square.calls k1 (wrap64 ((a1.size : Int) + 1)) t _ A8.out).mono ?_; rintro e w5 ⟨v14, rfl, ho0, hb⟩; have HV := Aside0.mk (show Kd.S (Kd.slice 2 (Kd.int .i64)) 44 w5 w.heap.size (fun k_ => wr.heap.size ≤ k_) v14 t from Kd.S_lower (Kd.S_mono (Kd.S_bound ho0) (fun k_ hk_ => hk_.2.1)) HB.out.size); have HX := Aside0.mk (Kd.S_old HO.out hb); have HB2 := Aside0.mk (below_step HB.out hb); have HSZ := Aside0.mk hb.size; have HLT := Aside0.mk (Kd.S_lt HO.out); clear ho0 hb HO; obtain ⟨Aq, cq, eq0⟩ := Kd.S_slice HV.out; subst eq0) | ((with_reducible refine gate_builtin (b := .append) (xs := #[.tmp 10, .tmp 15]) rfl ?_); at_builtin; refine Kd.S_append (sliceS 44 (Kd.slice 2 (Kd.int .i64))) (w0 := w) w.heap.size rfl (.tmp 10) (.tmp 15) 22 34 (.slice none 0 0) 24 rfl Try.underlying22 info34 rfl (by decide) (by omega) u5 x5 t [.slice Aq t.length cq] (fun k_ => w.heap.size ≤ k_) (fun k_ => wr.heap.size ≤ k_) rfl rfl ⟨_, rfl, HV.out⟩ (fun k_ hk_ => ⟨Nat.le_trans HB.out.size hk_, fun e_ => by have := HLT.out k_ e_.symm; have hk' : wr.heap.size ≤ k_ := hk_; omega⟩) (fun k_ hk_ => Nat.le_trans HB2.out.size hk_) (Kd.S_mono HX.out (fun k_ hk_ => ⟨hk_.1, Nat.not_le.mpr hk_.2⟩)) HB2.out HB2.out.size (by have := C9.out; omega) ?_; intro v1 w6 ho hb hg hat; have HO := Aside0.mk ho; have HB3 := Aside0.mk hb; clear ho hb hg hat))
          go_roundg k1
          case measure => have := HK1.out; omega
          case rel => exact ⟨_, wrap64 (x8 + 1), rfl, H', ⟨by have := HK1.out; omega⟩, HO, HB3⟩
        · rw [if_neg c9] at H
          exact absurd H (by simp)
      · rw [if_neg c6] at H
        have c6b0 : decide (x8 < a0) = false := decide_eq_false c6
        have H' := Aside0.mk H
        clear c6 H
        obtain ⟨Ao, co, eo⟩ := Kd.S_slice HO.out
        subst eo
        generalize hN : x5.length = N at HO
        have HN := Aside0.mk hN
        clear hN
        go_wp2
        go_loopg [20] k1 (fun kq v20 w' => ∃ (x : List (List (List Int))) (i : Int), v20 = .int .i64 i ∧ Aside0 (tablesL1 kq a1 x i = some r) ∧ Aside0 (kq ≤ k1) ∧ Aside0 (x.length = N) ∧ Aside0 (Kd.S (sliceS 44 (Kd.slice 2 (Kd.int .i64))) 34 w' w.heap.size (fun k_ => w.heap.size ≤ k_) (.slice Ao N co) x) ∧ Aside0 (Below w.heap.size w w'))
        case atStart => exact ⟨x5, 0, rfl, H', ⟨Nat.le_refl _⟩, HN, HO, HB⟩
        case round =>
          clear H' HO HB HN
          obtain ⟨x, i, rfl, HA, HK2, HN, HO, HB⟩ := hrel
          cases gk with
          | zero => exact absurd HA.out (by simp [tablesL1])
          | succ k2 =>
            have H := HA.out
            clear HA
            simp only [tablesL1] at H
            by_cases c1 : i < (a1.size : Int)
            · rw [if_pos c1] at H
              by_cases c2 : 0 ≤ i
              · rw [if_pos c2] at H
                obtain ⟨j, hj⟩ : ∃ j_ : Int, (((bt a1 i) - 48) % 256) = j_ := ⟨_, rfl⟩
                rw [hj] at H
                by_cases c3 : 0 ≤ j
                · rw [if_pos c3] at H
                  by_cases c4 : j < (x.length : Int)
                  · rw [if_pos c4] at H
                    by_cases c5 : i < ((rd_L2 x j).length : Int)
                    · rw [if_pos c5] at H
                      by_cases c6 : 0 ≤ wrap64 (i + 1)
                      · rw [if_pos c6] at H
                        by_cases c7 : wrap64 (i + 1) < ((rd_L1 (rd_L2 x j) i).length : Int)
                        · rw [if_pos c7] at H
                          have H' := Aside0.mk H
                          have c1b0 : decide (i < (a1.size : Int)) = true := decide_eq_true c1
                          have p9 : (0 ≤ i) = True := eq_true c2
                          have q9 : (i < (a1.size : Int)) = True := eq_true c1
                          have hx9 := bt_at a1 i
                          have pj : (0 ≤ j) = True := eq_true c3
                          have hjN : j < (N : Int) := by have := HN.out; omega
                          have qj : (j < (N : Int)) = True := eq_true hjN
                          have pk : (0 ≤ wrap64 (i + 1)) = True := eq_true c6
                          obtain ⟨g, cap, e1, hg1, hg2, cells, hcells⟩ := Kd.S_form HO.out (by omega)
                          injection e1 with e1 e2 e3
                          subst e1 e3
                          clear e2
                          obtain ⟨oki, cs, hcs, hM, hcell, hoki, hback⟩ := Kd.S_borrow HO.out ([] : List (List Int)) j c3 hjN
                          have hym : x.getD j.toNat [] = rd_L2 x j := rfl
                          rw [hym] at hM
                          generalize hm : rd_L2 x j = m at hM c5 c7
                          obtain ⟨v', rfl, hS⟩ := hM
                          have hcellv := hcell 0 v' rfl
                          obtain ⟨g', cap', e4, hg3, hg4, cells', hcells'⟩ := Kd.S_form hS (by omega)
                          subst e4
                          have hcell0 : wr.cell? ⟨g, j.toNat, none⟩ = some (.slice (some ⟨g', 0, none⟩) m.length cap') := by
                            have : j.toNat * (sliceS 44 (Kd.slice 2 (Kd.int .i64))).sz + 0 = j.toNat := by show j.toNat * 1 + 0 = _; omega
                            rw [this, add_at, Nat.zero_add] at hcellv; exact hcellv
                          obtain ⟨oki2, cs2, hcs2, hM2, hcell2, hoki2, hback2⟩ := Kd.S_borrow hS ([] : List Int) i c2 c5
                          have hyr : m.getD i.toNat [] = rd_L1 m i := rfl
                          rw [hyr] at hM2
                          generalize hr : rd_L1 m i = row at hM2 c7
                          obtain ⟨v'', rfl, hR⟩ := hM2
                          have hcellw := hcell2 0 v'' rfl
                          obtain ⟨g'', cap'', e5, hg5, hg6, cells'', hcells''⟩ := Kd.R_form hR (by omega)
                          subst e5
                          have hcell1 : wr.cell? ⟨g', i.toNat, none⟩ = some (.slice (some ⟨g'', 0, none⟩) row.length cap'') := by
                            have : i.toNat * (Kd.slice 2 (Kd.int .i64)).sz + 0 = i.toNat := by show i.toNat * 1 + 0 = _; omega
                            rw [this, add_at, Nat.zero_add] at hcellw; exact hcellw
                          have qi : (i < (m.length : Int)) = True := eq_true c5
                          have qk : (wrap64 (i + 1) < (row.length : Int)) = True := eq_true c7
                          obtain ⟨hx9_0, hf9_0⟩ := Kd.R_celln 0 hR (wrap64 (i + 1)) c6 c7
                          have HP := Kd.R_putg hR (wrap64 (i + 1)) 1
                          have hb2 := hback2 (x' := row.set (wrap64 (i + 1)).toNat 1) HP.2 (fun k_ hk_ => hR.1 k_ (by rw [← hk_]; rfl)) ⟨_, rfl, HP.1⟩
                          have hb1 := hback (x' := m.set i.toNat (row.set (wrap64 (i + 1)).toNat 1)) HP.2 (fun k_ hk_ => (hoki2 _ (hR.1 k_ (by rw [← hk_]; rfl))).1) ⟨_, rfl, hb2⟩
                          have HBK := Aside0.mk hb1
                          have HBASE := Aside0.mk hg5
                          have HM := Aside0.mk hm
                          have HRW := Aside0.mk hr
                          clear hb1 hb2 hback hback2 hcell hcell2 hcellv hcellw hoki hoki2 hcs hcs2 hcells hcells' hcells'' hR hS HP hym hyr hm hr hg1 hg2 hg3 hg4 hg5 hg6 c1 c2 c3 c4 c5 c6 c7 H hjN
                          go_wp2_with ((with_reducible refine gate_store (t := 2) (p := 35) rfl ?_); refine store_event (t := 2) (p := 35) (v := ?vo) (w1 := (wr.setCell ⟨g'', (wrap64 (i + 1)).toNat, none⟩ (.int .i64 1))) ?hg ?ho ?hn ?hr ?_; (case ho => rfl); (case hg => rfl); (case hn => rfl); (case hr => first | (go_simp; done) | (go_simp; rfl)); intro w14 hw; have HO2 := Aside0.mk (show Kd.S (sliceS 44 (Kd.slice 2 (Kd.int .i64))) 34 w14 w.heap.size (fun k_ => w.heap.size ≤ k_) (.slice (some ⟨g, 0, none⟩) N co) (x.set j.toNat (m.set i.toNat (row.set (wrap64 (i + 1)).toNat 1))) from (by rw [hw]; exact HBK.out)); have HB2 := Aside0.mk (show Below w.heap.size w w14 from (by rw [hw]; exact below_set HB.out HBASE.out)); clear hw HBK)
                          go_roundg k2
                          case measure => have := HK1.out; have := HK2.out; omega
                          case rel => exact ⟨_, wrap64 (i + 1), rfl, H', ⟨by have := HK2.out; omega⟩, ⟨by rw [List.length_set]; exact HN.out⟩, ⟨by rw [HM.out, HRW.out]; exact HO2.out⟩, HB2⟩
                        · rw [if_neg c7] at H
                          exact absurd H (by simp)
                      · rw [if_neg c6] at H
                        exact absurd H (by simp)
                    · rw [if_neg c5] at H
                      exact absurd H (by simp)
                  · rw [if_neg c4] at H
                    exact absurd H (by simp)
                · rw [if_neg c3] at H
                  exact absurd H (by simp)
              · rw [if_neg c2] at H
                exact absurd H (by simp)
            · rw [if_neg c1] at H
              have c1b0 : decide (i < (a1.size : Int)) = false := decide_eq_false c1
              obtain rfl := Option.some.inj H
              clear c1 H
              go_wp2
              go_ret
              exact ⟨_, rfl, HO.out, HB.out⟩
/-- The tables of a word, or a code. -/
def impl_TablesOfWord_f (k : Nat) (d : Int) (s : ByteArray) : Option (List (List (List Int)) × Int) := (impl_areLetters.f d).bind fun t => if t = true then ((impl_isWord.f k d s 1099511627776).bind fun t => if t = true then (if (s.size : Int) > 5 then some ([], 2) else (tablesL0 k d s [] 0).bind fun r => some (r, 0)) else some ([], 1)) else some ([], 2)
set_option maxHeartbeats 8000000 in
set_option maxRecDepth 100000 in
theorem impl_TablesOfWord_calls (k : Nat) (a0 : Int) (a1 : ByteArray) (r1 : List (List (List Int))) (r2 : Int) (w : World) (h : impl_TablesOfWord_f k a0 a1 = some (r1, r2)) :
    Calls Try.prog 25 #[.int .i64 a0, .string a1] w fun e w' => ∃ v0_ : Value, e = .returned (.tuple #[v0_, .int .i64 r2]) ∧ Kd.S (sliceS 44 (Kd.slice 2 (Kd.int .i64))) 34 w' w.heap.size (fun k_ => w.heap.size ≤ k_) v0_ r1 ∧ Below w.heap.size w w' := by
  unfold impl_TablesOfWord_f at h
  obtain ⟨t1, e1, h⟩ := Option.bind_eq_some_iff.mp h
  have E1 := Aside0.mk e1
  clear e1
  cases t1 with
  | false =>
    rw [if_neg (by decide)] at h
    simp only [Option.some.injEq, Prod.mk.injEq] at h
    obtain ⟨rfl, rfl⟩ := h
    go_enter Try.func25, Try.ntmps25
    go_wp2_with (go_at_call 52; refine (impl_areLetters.calls a0 false _ E1.out).mono ?_; rintro e w' ⟨rfl, n1, rfl⟩)
    go_ret2
    exact ⟨_, rfl, Kd.S_nil _ _ _ _ _, pw_below_drewN (Below.refl _ _) _⟩
  | true =>
    rw [if_pos rfl] at h
    obtain ⟨t2, e2, h⟩ := Option.bind_eq_some_iff.mp h
    have E2 := Aside0.mk e2
    clear e2
    cases t2 with
    | false =>
      rw [if_neg (by decide)] at h
      simp only [Option.some.injEq, Prod.mk.injEq] at h
      obtain ⟨rfl, rfl⟩ := h
      go_enter Try.func25, Try.ntmps25
      go_wp2_with (first | (go_at_call 52; refine (impl_areLetters.calls a0 true _ E1.out).mono ?_; rintro e w' ⟨rfl, n1, rfl⟩) | (go_at_call 60; refine (impl_isWord.calls k a0 a1 1099511627776 false _ E2.out).mono ?_; rintro e w' ⟨rfl, n2, rfl⟩))
      go_ret2
      exact ⟨_, rfl, Kd.S_nil _ _ _ _ _, pw_below_drewN (Below.refl _ _) _⟩
    | true =>
      rw [if_pos rfl] at h
      by_cases c : (a1.size : Int) > 5
      · rw [if_pos c] at h
        simp only [Option.some.injEq, Prod.mk.injEq] at h
        obtain ⟨rfl, rfl⟩ := h
        have c0 : decide ((5 : Int) < (a1.size : Int)) = true := decide_eq_true c
        have c1 : decide (5 < a1.size) = true := decide_eq_true (by omega)
        clear c
        go_enter Try.func25, Try.ntmps25
        go_wp2_with (first | (go_at_call 52; refine (impl_areLetters.calls a0 true _ E1.out).mono ?_; rintro e w' ⟨rfl, n1, rfl⟩) | (go_at_call 60; refine (impl_isWord.calls k a0 a1 1099511627776 true _ E2.out).mono ?_; rintro e w' ⟨rfl, n2, rfl⟩))
        go_ret2
        exact ⟨_, rfl, Kd.S_nil _ _ _ _ _, pw_below_drewN (Below.refl _ _) _⟩
      · rw [if_neg c] at h
        obtain ⟨q, e3, h⟩ := Option.bind_eq_some_iff.mp h
        have E3 := Aside0.mk e3
        clear e3
        simp only [Option.some.injEq, Prod.mk.injEq] at h
        obtain ⟨rfl, rfl⟩ := h
        have c0 : decide ((5 : Int) < (a1.size : Int)) = false := decide_eq_false c
        have c1 : decide (5 < a1.size) = false := decide_eq_false (by omega)
        clear c
        go_enter Try.func25, Try.ntmps25
        go_wp2_with (first | (go_at_call 52; refine (impl_areLetters.calls a0 true _ E1.out).mono ?_; rintro e w' ⟨rfl, n1, rfl⟩) | (go_at_call 60; refine (impl_isWord.calls k a0 a1 1099511627776 true _ E2.out).mono ?_; rintro e w' ⟨rfl, n2, rfl⟩) | (go_at_call 61; refine (tablesOf_calls k a0 a1 q _ E3.out).mono ?_; rintro e w3 ⟨v3, rfl, ho, hb⟩; have HO := Aside0.mk ho; have HB := Aside0.mk (below_step (pw_below_drewN (Below.refl w.heap.size w) _) hb); clear ho hb))
        go_ret2
        exact ⟨_, rfl, HO.out, HB.out⟩
end Go.Proofs.Ytbpipmkgclkhgaa.Nest
