/- Rows of terms and series that come in: how they are read. -/
import Derived.Test.YtcklefgkbddlhaaHandOpen
import Derived.ChangeSame
namespace Go.Proofs.Ytcklefgkbddlhaa.Hand
open Go.ChangeShapes Go.WideShapes Go.RowKit Go.Deep Go.Proofs.Ytcklefgkbddlhaa.P Go.Proofs.YtcklefgkbddlhaaW.PrintWords Go.Proofs.YtcklefgkbddlhaaW.PrintLast Go.Proofs.YtcklefgkbddlhaaW.PrintMore
set_option linter.unusedVariables false
set_option linter.unusedSimpArgs false

theorem fields3 {α : Type} {n : Nat} {a b c : α} (h : n = #[a, b, c].size) : n = 3 := h
theorem len3 {α : Type} {l : List α} (h : l.length = 3) : ∃ a b c, l = [a, b, c] := by
  rcases l with _ | ⟨a, _ | ⟨b, _ | ⟨c, _ | ⟨d, l⟩⟩⟩⟩ <;> simp at h
  exact ⟨a, b, c, rfl⟩
/-- A term whose numbers and text are as they come. -/
def FitT (x : S124) : Prop := x.f0.size ≤ maxLen ∧ (Lit.int .i64 x.f1.f0).wf = true ∧ (Lit.int .i64 x.f1.f1).wf = true
theorem in_term {H : Type} {enc : TypeId × Value → H} {W : World} {base : Nat} {held : Bool} {cs : List Value} {fuel : Nat} {x : DataW H × List MemPlace}
    (h : DataW.trod enc Try.prog W base (fun _ => true) held fuel 124 cs = some x) : ∃ y : S124, cs = [.string y.f0, .int .i64 y.f1.f0, .int .i64 y.f1.f1] ∧ FitT y := by
  obtain ⟨y0, y1, n, _, hl, h0, h1⟩ := trod_struct2 Try.underlying124 h
  have hc1 : Try.prog.cellsOf 9 = 1 := by kernel_rfl
  have hc2 : Try.prog.cellsOf 122 = 2 := by kernel_rfl
  have hc4 : Try.prog.cellsOf 2 = 1 := by kernel_rfl
  have hc3 : Try.prog.cellsOf 124 = 3 := by kernel_rfl
  rw [hc3] at hl
  obtain ⟨a, b, c, rfl⟩ := len3 hl
  simp only [hc1, hc2, List.drop_zero, List.drop_succ_cons, List.take_succ_cons, List.take_zero] at h0 h1
  obtain ⟨s, e0, _, hs⟩ := DataW.trod_string Try.underlying9 h0
  obtain ⟨y2, y3, n2, _, _, h2, h3⟩ := trod_struct2 Try.underlying122 h1
  simp only [hc4, List.drop_zero, List.drop_succ_cons, List.take_succ_cons, List.take_zero] at h2 h3
  obtain ⟨p, e2, _, hp⟩ := DataW.trod_int Try.underlying2 h2
  obtain ⟨q, e3, _, hq⟩ := DataW.trod_int Try.underlying2 h3
  obtain rfl := (List.cons.inj e0).1
  obtain rfl := (List.cons.inj e2).1
  obtain rfl := (List.cons.inj e3).1
  exact ⟨⟨s, ⟨p, q⟩⟩, rfl, hs, hp, hq⟩
/-- A row of terms as it came in. -/
def InTerms (W : World) (A : Option Addr) (len cap : Nat) (l : List S124) : Prop :=
  Kd.C k124 W A len l ∧ len ≤ cap ∧ l.length = len ∧ ∀ y ∈ l, FitT y
theorem in_terms {H : Type} {enc : TypeId × Value → H} {W : World} {base : Nat} {held : Bool} {v : Value} {fuel : Nat} {x : DataW H × List MemPlace}
    (h : DataW.trod enc Try.prog W base (fun _ => true) held fuel 22 [v] = some x) : ∃ A len cap l, v = .slice A len cap ∧ InTerms W A len cap l := by
  rcases open_slice Try.underlying22 h with ⟨hcs, _⟩ | ⟨a, n, c, m, f, D, Pl, hcs, _, hl, hm, hmm, _, hr⟩
  · obtain rfl := (List.cons.inj hcs).1
    exact ⟨none, 0, 0, [], rfl, Kd.C_nil _ _, Nat.le_refl _, rfl, fun r hr => by cases hr⟩
  · obtain rfl := (List.cons.inj hcs).1
    simp only [if_true] at hmm
    subst hmm
    have hM : maxLen = 9223372036854775807 := rfl
    have hc3 : Try.prog.cellsOf 124 = 3 := by kernel_rfl
    rw [hc3] at hr
    have hz : Inhabited S124 := ⟨z124⟩
    obtain ⟨y, hy⟩ := choose_lt (n := m) (p := fun i y => W.cells? base (a.add (i * 3)) 3 = some [.string y.f0, .int .i64 y.f1.f0, .int .i64 y.f1.f1] ∧ FitT (y : S124)) (fun i hi => by
      obtain ⟨cs', h1, h2⟩ := hr i hi
      obtain ⟨y, rfl, hf⟩ := in_term h2
      exact ⟨y, h1, hf⟩)
    refine ⟨some a, n, m, (List.range n).map y, rfl, ⟨by simp, by omega, fun h0 => ⟨a, rfl, fun j p hj => ?_⟩⟩, hl, by simp, ?_⟩
    · have hjn : j < n := by
        rcases Nat.lt_or_ge j n with h | h
        · exact h
        · rw [List.getElem?_eq_none (by simpa using h)] at hj; cases hj
      have hp : p = y j := by
        rw [List.getElem?_map, List.getElem?_range hjn] at hj
        simpa using hj.symm
      subst hp
      refine ⟨_, rfl, k124_mk W (y j), fun q u hq => ?_⟩
      have h1 := (hy j (by omega)).1
      obtain ⟨_, _, hcell⟩ := World.cells?_some h1
      have hq3 : q < 3 := by
        rcases Nat.lt_or_ge q 3 with h | h
        · exact h
        · rw [List.getElem?_eq_none (by simpa using h)] at hq; cases hq
      show W.cell? (a.add (j * 3 + q)) = some u
      rw [← Deep.add_add]
      exact (hcell q hq3).trans hq
    · intro r hr'
      obtain ⟨j, hj, rfl⟩ := List.mem_map.1 hr'
      exact (hy j (by have := List.mem_range.1 hj; omega)).2
set_option maxRecDepth 100000 in
theorem in_series {H : Type} {enc : TypeId × Value → H} {W : World} {base : Nat} {held : Bool} {cs : List Value} {fuel : Nat} {x : DataW H × List MemPlace}
    (h : DataW.trod enc Try.prog W base (fun _ => true) held fuel 24 cs = some x) : ∃ d n A len cap l, cs = [.int .i64 d, .int .i64 n, .slice A len cap] ∧ (Lit.int .i64 d).wf = true ∧ (Lit.int .i64 n).wf = true ∧ InTerms W A len cap l := by
  obtain ⟨xs, n, _, _, hl, hlen0, hf⟩ := DataW.trod_struct Try.underlying24 h
  have hc1 : Try.prog.cellsOf 2 = 1 := by kernel_rfl
  have hc2 : Try.prog.cellsOf 22 = 1 := by kernel_rfl
  have hc3 : Try.prog.cellsOf 24 = 3 := by kernel_rfl
  rw [hc3] at hl
  obtain ⟨a, b, c, rfl⟩ := len3 hl
  obtain ⟨y0, y1, y2, rfl⟩ := len3 (fields3 hlen0)
  have h0 : DataW.trod enc Try.prog W base (fun _ => true) held n 2 (([a, b, c].drop 0).take (Try.prog.cellsOf 2)) = some y0 := hf 0 _ rfl
  have h1 : DataW.trod enc Try.prog W base (fun _ => true) held n 2 (([a, b, c].drop 1).take (Try.prog.cellsOf 2)) = some y1 := hf 1 _ rfl
  have h2 : DataW.trod enc Try.prog W base (fun _ => true) held n 22 (([a, b, c].drop 2).take (Try.prog.cellsOf 22)) = some y2 := hf 2 _ rfl
  simp only [hc1, hc2, List.drop_zero, List.drop_succ_cons, List.take_succ_cons, List.take_zero, List.getElem?_cons_zero, List.getElem?_cons_succ] at h0 h1 h2
  obtain ⟨p, e0, _, hp⟩ := DataW.trod_int Try.underlying2 h0
  obtain ⟨q, e1, _, hq⟩ := DataW.trod_int Try.underlying2 h1
  obtain ⟨A, len, cap, l, rfl, hi⟩ := in_terms h2
  obtain rfl := (List.cons.inj e0).1
  obtain rfl := (List.cons.inj e1).1
  exact ⟨p, q, A, len, cap, l, rfl, hp, hq, hi⟩

end Go.Proofs.Ytcklefgkbddlhaa.Hand
