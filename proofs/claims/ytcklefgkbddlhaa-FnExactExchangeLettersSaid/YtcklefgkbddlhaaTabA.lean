/- Tables of the program: a pointer to a struct with a row of fractions. How they lie in memory, and what slices.Repeat makes of one fraction. -/
import Derived.Test.YtcklefgkbddlhaaPx12
import Derived.Laws.IdiomCopy
namespace Go.Proofs.Ytcklefgkbddlhaa.Tab
open Go.RowKit Go.Proofs.Ytcklefgkbddlhaa.P Go.Proofs.YtcklefgkbddlhaaW.PrintWords Go.Proofs.YtcklefgkbddlhaaW.PrintLast Go.Proofs.YtcklefgkbddlhaaW.PrintMore
set_option linter.unusedVariables false
set_option linter.unusedSimpArgs false

theorem run_copy_sized {P : Program} (w : World) (dT sT ty elem : TypeId) (b o dLen dCap : Nat) (a : Addr) (sLen sCap q : Nat) (cs : List Value)
    (hu : P.underlying dT = some (.slice elem)) (hs : (P.info? elem).map (·.size) = some q) (hn : cs.length = Nat.min sLen dLen * q)
    (hsrc : ∀ j v, cs[j]? = some v → w.cell? (a.add j) = some v) (hc : ∀ j, j < cs.length → (w.cell? ⟨b, o + j, none⟩).isSome = true) (hf : ∀ j, j < cs.length → w.frozen? ⟨b, o + j, none⟩ = false) (h1 : ∀ v ∈ cs, v.oneCell' = true) :
    (Builtin.copy_ #[dT, sT] ty #[.slice (some ⟨b, o, none⟩) dLen dCap, .slice (some a) sLen sCap]).run P w = .ok (goInt (Nat.min sLen dLen)) (w.setCells b o cs) := by
  have hl := run_loadCells_list (P := P) w a cs hsrc
  have hst := run_storeCells_cells (P := P) b o cs 0 w (by simpa using hc) (by simpa using hf) h1
  cases hq : P.info? elem with
  | none => simp [hq] at hs
  | some i =>
    have hi : i.size = q := by simpa [hq] using hs
    simp [Builtin.copy_, run_underlying hu, Builtin.lenOf, Builtin.firstCells, sizeOf, typeInfo, hq, hi, ← hn, hl, hst]
/-- A table at block B; its values lie in block g. -/
structure Tab (w : World) (base B g cap : Nat) (d n : Int) (vs : List S27) (bad : Bool) : Prop where
  head : w.heap[B]? = some (.cells #[.int .i64 d, .int .i64 n, .slice (some ⟨g, 0, none⟩) vs.length cap, .bool bad] 147 (0, 0))
  row : Kd.R k27 27 w base (fun k => k = g) (.slice (some ⟨g, 0, none⟩) vs.length cap) vs
  hB : base ≤ B
  ne : B ≠ g
section
variable {w w1 : World} {base B g cap : Nat} {d n : Int} {vs : List S27} {bad : Bool}
theorem Tab.ltB (h : Tab w base B g cap d n vs bad) : B < w.heap.size := (Array.getElem?_eq_some_iff.1 h.head).1
theorem Tab.lt (h : Tab w base B g cap d n vs bad) : g < w.heap.size := by
  obtain ⟨_, hr, _⟩ := h.row
  have := Kd.R_bound h.row
  obtain ⟨inner, ho⟩ := Kd.R_own h.row
  exact own_lt ho g (by simp [Value.ownBlock])
theorem Tab.hg (h : Tab w base B g cap d n vs bad) : base ≤ g := by
  obtain ⟨inner, ho⟩ := Kd.R_own h.row
  exact own_base ho g (by simp [Value.ownBlock])
theorem Tab.move (h : Tab w base B g cap d n vs bad) (hm : ∀ k, k = B ∨ k = g → w1.heap[k]? = w.heap[k]?) : Tab w1 base B g cap d n vs bad :=
  ⟨(hm B (.inl rfl)).trans h.head, Kd.R_move h.row (fun k hk => hm k (.inr hk)), h.hB, h.ne⟩
theorem Tab.below (h : Tab w base B g cap d n vs bad) (hb : Below w.heap.size w w1) : Tab w1 base B g cap d n vs bad :=
  h.move (fun k hk => hb.block k (by rcases hk with rfl | rfl; exact h.ltB; exact h.lt))
theorem Tab.lower {base' : Nat} (h : Tab w base B g cap d n vs bad) (hb : base' ≤ base) : Tab w base' B g cap d n vs bad :=
  ⟨h.head, Kd.R_lower h.row hb, Nat.le_trans hb h.hB, h.ne⟩
theorem Tab.cells (h : Tab w base B g cap d n vs bad) : w.cell? ⟨B, 0, none⟩ = some (.int .i64 d) ∧ w.cell? ⟨B, 1, none⟩ = some (.int .i64 n) ∧ w.cell? ⟨B, 2, none⟩ = some (.slice (some ⟨g, 0, none⟩) vs.length cap) ∧ w.cell? ⟨B, 3, none⟩ = some (.bool bad) := by
  refine ⟨?_, ?_, ?_, ?_⟩ <;> simp [World.cell?, h.head]
theorem Tab.frozen (h : Tab w base B g cap d n vs bad) (j : Nat) : w.frozen? ⟨B, j, none⟩ = false := by simp [World.frozen?, h.head]
theorem Tab.val (h : Tab w base B g cap d n vs bad) (i : Int) (h0 : 0 ≤ i) (h1 : i < vs.length) :
    w.cell? ⟨g, i.toNat * 2, none⟩ = some (.int .i64 (rd_T27 vs i).f0) ∧ w.cell? ⟨g, i.toNat * 2 + 1, none⟩ = some (.int .i64 (rd_T27 vs i).f1) ∧ (∀ j, w.frozen? ⟨g, j, none⟩ = false) := by
  obtain ⟨c, hl, hM, hc, hf⟩ := Kd.R_elem h.row z27 i h0 h1
  obtain rfl := k27_openM hM
  obtain ⟨inner, ho⟩ := Kd.R_own h.row
  obtain ⟨cells, hcc⟩ := own_typed ho g (by simp [Value.ownBlock])
  exact ⟨hc 0 _ rfl, hc 1 _ rfl, fun j => blk_frozen hcc j⟩
/-- A value is written. -/
theorem Tab.put (h : Tab w base B g cap d n vs bad) (i : Int) (h0 : 0 ≤ i) (h1 : i < vs.length) (a b : Int) :
    Tab ((w.setCell ⟨g, i.toNat * 2, none⟩ (.int .i64 a)).setCell ⟨g, i.toNat * 2 + 1, none⟩ (.int .i64 b)) base B g cap d n (vs.set i.toNat ⟨a, b⟩) bad := by
  obtain ⟨c, hl, hM, hc, hf⟩ := Kd.R_elem h.row z27 i h0 h1
  have hs := Kd.R_seg h.row i h0 h1 (seg := [.int .i64 a, .int .i64 b]) (j := 0) hl hc (show 2 ≤ 2 from Nat.le_refl _) (x' := ⟨a, b⟩) (okp := fun _ => False) (by
    have e : List.take 0 c ++ [Value.int .i64 a, .int .i64 b] ++ List.drop (0 + [Value.int .i64 a, .int .i64 b].length) c = [.int .i64 a, .int .i64 b] := by
      rw [List.drop_of_length_le (by rw [hl]; exact (show 2 ≤ 2 from Nat.le_refl _))]
      rfl
    rw [e]
    exact k27_mkM _ _ _ ⟨a, b⟩) (fun _ hk => hk.elim)
  refine ⟨?_, ?_, h.hB, h.ne⟩
  · rw [List.length_set]
    exact (Below.heap_setCell _ ⟨g, _, none⟩ _ B h.ne).trans ((Below.heap_setCell w ⟨g, _, none⟩ _ B h.ne).trans h.head)
  · rw [List.length_set]
    exact hs.1
/-- The mark that something has not fitted. -/
theorem Tab.mark (h : Tab w base B g cap d n vs bad) (b : Bool) : Tab (w.setCell ⟨B, 3, none⟩ (.bool b)) base B g cap d n vs b := by
  refine ⟨?_, Kd.R_move h.row (fun k hk => Below.heap_setCell w ⟨B, 3, none⟩ _ k (by rw [hk]; exact Ne.symm h.ne)), h.hB, h.ne⟩
  exact blk_put h.head 3 (.bool b) rfl
end
end Go.Proofs.Ytcklefgkbddlhaa.Tab
