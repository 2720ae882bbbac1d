/- laws.markFractionSS: what a call of it comes to at rows that are apart. -/
import Derived.Test.YtfbkjlgibpmpoaaPx10
import Derived.Test.YtfbkjlgibpmpoaaBaseFrM
namespace Go.Proofs.Ytfbkjlgibpmpoaa.Nest
open Go.RowKit Go.Proofs.Ytfbkjlgibpmpoaa.P Go.Proofs.Ytfbkjlgibpmpoaa.Pure Go.Proofs.YtfbkjlgibpmpoaaW.PrintWords Go.Proofs.YtfbkjlgibpmpoaaW.PrintLast Go.Proofs.YtfbkjlgibpmpoaaW.PrintMore
set_option linter.unusedVariables false
set_option linter.unusedSimpArgs false

set_option maxHeartbeats 4000000 in
set_option maxRecDepth 10000 in
theorem markFractionSS_calls (P : Nat → Prop) (v : Value) (l : List (List S79)) (m : Int) (w0 w : World) (hB : Below w0.heap.size w0 w) (ho : Kd.S (Kd.slice 79 k79) 77 w w0.heap.size P v l) (h0 : 0 ≤ m) (h1 : m ≤ 4000000) (hl : l.length ≤ 4000000) (ht : totF l ≤ 4000000) :
    Calls Try.prog 25 #[v, .int .i64 m] w fun e w' => e = .returned (.int .i64 (m + 2 * totF l)) ∧ Kd.S (Kd.slice 79 k79) 77 w' w0.heap.size P v (fmarks2 m l) ∧ Below w0.heap.size w0 w' ∧ Kept w w' P := by
  obtain ⟨A, c, rfl, hc⟩ := Kd.S_reads ho

  have HS := Aside0.mk ho
  have HB := Aside0.mk hB
  have HT := Aside0.mk ht
  clear ho hB hc ht
  go_enter Try.func25, Try.ntmps25
  go_wp2
  go_loopg [1, 5] l.length (fun gg u1 u5 wr => ∃ i : Nat, i ≤ l.length ∧ l.length - i ≤ gg ∧ u1 = .int .i64 (m + 2 * totF (l.take i)) ∧ u5 = .int .i64 i ∧ Aside0 (Kd.S (Kd.slice 79 k79) 77 wr w0.heap.size P (.slice A l.length c) (fmarks2 m (l.take i) ++ l.drop i)) ∧ Aside0 (Below w0.heap.size w0 wr) ∧ Aside0 (Kept w wr P))
  case atStart => exact ⟨0, Nat.zero_le _, by omega, by simp [totF], rfl, ⟨by simpa [fmarks2] using HS.out⟩, HB, ⟨Kept.refl _ _⟩⟩
  case round =>
    obtain ⟨i, hi, hg, rfl, rfl, HSi, HBi, HKi⟩ := hrel
    by_cases hlt : i < l.length
    · have hltz : (i : Int) < (l.length : Int) := by omega
      have hln : (fmarks2 m (l.take i) ++ l.drop i).length = l.length := by simp [fmarks2_length]; omega
      have hpos := Kd.R_form (Kd.S_R HSi.out) (by omega)
      obtain ⟨g, cap, e1, hg1, hg2, cells, hcells⟩ := hpos
      injection e1 with e1 e2 e3
      subst e1 e3
      clear e2
      obtain ⟨oki, cs, hcs, hM, hcell, hoki, hH⟩ := Kd.S_lend HSi.out ([] : List S79) (i : Int) (by omega) (by omega)
      have hget : (fmarks2 m (l.take i) ++ l.drop i).getD (i : Int).toNat ([] : List S79) = l[i] := by
        rw [Int.toNat_natCast, List.getD_eq_getElem?_getD, List.getElem?_append_right (by simp [fmarks2_length]; omega)]
        simp [fmarks2_length, Nat.min_eq_left hi, show i < l.length by omega]
      rw [hget] at hM
      obtain ⟨v', rfl, hR⟩ := hM
      have hcellv := hcell 0 v' rfl
      obtain ⟨A', c', rfl, hcc', hCC⟩ := Kd.R_reads hR
      have hcell0 : wr.cell? ⟨g, i, none⟩ = some (.slice A' l[i].length c') := by
        have : (i : Int).toNat * (Kd.slice 79 k79).sz + 0 = i := by show (i : Int).toNat * 1 + 0 = i; omega
        rw [this] at hcellv; exact hcellv
      have hr1 := totF_take_succ l i hlt
      have hr2 := take_totF_le l (i + 1)
      have hT := HT.out
      have HMk := Aside0.mk (markFractionS_f (l[i].length + 1) l[i] (m + 2 * totF (l.take i)) (by omega) (by omega) (by omega) (by omega))
      have HH := Aside0.mk hH
      have HR := Aside0.mk hR
      have HO := Aside0.mk hoki
      have e4 : m + 2 * (totF (l.take i) : Int) + 2 * (l[i].length : Int) = m + 2 * (totF (l.take (i + 1)) : Int) := by omega
      have E4 := Aside0.mk e4
      have HE := Aside0.mk hr1
      have HLN := Aside0.mk hln
      clear hH hR hcell hcellv hoki hget hCC hcells hr1 e4 hT hr2 hcs hln hcc'
      generalize hrow : l[i] = row at *
      have HROW := Aside0.mk hrow
      clear hrow
      go_wp2_with (go_at_call 69; refine (laws_markFractionS.calls (row.length + 1) oki (.slice A' row.length c') row (m + 2 * totF (l.take i)) _ _ w0 _ HBi.out HR.out HMk.out).mono ?_; rw [E4.out]; rintro e w' ⟨rfl, hR', hB', hK'⟩)
      go_roundg (l.length - (i + 1))
      case measure => omega
      case rel =>
        refine ⟨i + 1, by omega, by omega, rfl, by go_num, ⟨?_⟩, ⟨hB'⟩, ⟨HKi.out.then_ hK' (fun k hk => .inl (HO.out k hk).1)⟩⟩
        have h2 := Kd.H_back (Kd.H_kept HH.out hK' (fun k _ hn => hn)) (okp := fun k => some k = (Value.slice A' row.length c').ownBlock) (x' := fmarks (m + 2 * totF (l.take i)) row.length) ⟨_, rfl, Kd.R_tight rfl hR'⟩ (fun k hk => HR.out.1 k hk.symm)
        have e5 : (fmarks2 m (l.take i) ++ l.drop i).set (i : Int).toNat (fmarks (m + 2 * totF (l.take i)) row.length) = fmarks2 m (l.take (i + 1)) ++ l.drop (i + 1) := by
          rw [Int.toNat_natCast, set_midF _ _ _ _ (by rw [fmarks2_length, List.length_take]; omega) hlt, List.take_succ_eq_append_getElem hlt, HROW.out, fmarks2_snoc]
        rw [e5] at h2
        exact h2
    · have hltz : ¬ (i : Int) < (l.length : Int) := by omega
      have hii : i = l.length := by omega
      subst hii
      go_wp2
      go_ret
      refine ⟨?_, ?_, HBi.out, HKi.out⟩
      · simp
      · have := HSi.out
        simpa using this
end Go.Proofs.Ytfbkjlgibpmpoaa.Nest
