/- Rows of rows of fractions that come in: how they are read. -/
import Derived.Test.YtfbkjlgibpmpoaaHandOpen
import Derived.ChangeSame
namespace Go.Proofs.Ytfbkjlgibpmpoaa.Hand
open Go.ChangeShapes Go.WideShapes Go.RowKit Go.Deep Go.Proofs.Ytfbkjlgibpmpoaa.P Go.Proofs.YtfbkjlgibpmpoaaW.PrintWords Go.Proofs.YtfbkjlgibpmpoaaW.PrintLast Go.Proofs.YtfbkjlgibpmpoaaW.PrintMore
set_option linter.unusedVariables false
set_option linter.unusedSimpArgs false

theorem len2F {α : Type} {l : List α} (h : l.length = 2) : ∃ a b, l = [a, b] := by
  rcases l with _ | ⟨a, _ | ⟨b, _ | ⟨c, l⟩⟩⟩ <;> simp at h
  exact ⟨a, b, rfl⟩
theorem in_fr {H : Type} {enc : TypeId × Value → H} {W : World} {base : Nat} {held : Bool} {cs : List Value} {fuel : Nat} {x : DataW H × List MemPlace}
    (h : DataW.trod enc Try.prog W base (fun _ => true) held fuel 129 cs = some x) : ∃ y : S129, cs = [.int .i64 y.f0, .int .i64 y.f1] := by
  obtain ⟨y2, y3, n2, _, hl, h2, h3⟩ := trod_struct2 Try.underlying129 h
  have hc2 : Try.prog.cellsOf 129 = 2 := by kernel_rfl
  have hc4 : Try.prog.cellsOf 2 = 1 := by kernel_rfl
  rw [hc2] at hl
  obtain ⟨a, b, rfl⟩ := len2F hl
  simp only [hc4, List.drop_zero, List.drop_succ_cons, List.take_succ_cons, List.take_zero] at h2 h3
  obtain ⟨p, e2, _, hp⟩ := DataW.trod_int Try.underlying2 h2
  obtain ⟨q, e3, _, hq⟩ := DataW.trod_int Try.underlying2 h3
  obtain rfl := (List.cons.inj e2).1
  obtain rfl := (List.cons.inj e3).1
  exact ⟨⟨p, q⟩, rfl⟩
/-- A row of fractions as it came in. -/
def InFrs (W : World) (A : Option Addr) (len cap : Nat) (l : List S129) : Prop := Kd.C k129 W A len l ∧ len ≤ cap ∧ l.length = len
theorem in_frs {H : Type} {enc : TypeId × Value → H} {W : World} {base : Nat} {held : Bool} {v : Value} {fuel : Nat} {x : DataW H × List MemPlace}
    (h : DataW.trod enc Try.prog W base (fun _ => true) held fuel 75 [v] = some x) : ∃ A len cap l, v = .slice A len cap ∧ InFrs W A len cap l := by
  rcases open_slice Try.underlying75 h with ⟨hcs, _⟩ | ⟨a, n, c, m, f, D, Pl, hcs, _, hl, hm, hmm, _, hr⟩
  · obtain rfl := (List.cons.inj hcs).1
    exact ⟨none, 0, 0, [], rfl, Kd.C_nil _ _, Nat.le_refl _, rfl⟩
  · obtain rfl := (List.cons.inj hcs).1
    simp only [if_true] at hmm
    subst hmm
    have hM : maxLen = 9223372036854775807 := rfl
    have hc3 : Try.prog.cellsOf 129 = 2 := by kernel_rfl
    rw [hc3] at hr
    have hz : Inhabited S129 := ⟨z129⟩
    obtain ⟨y, hy⟩ := choose_lt (n := m) (p := fun i (y : S129) => W.cells? base (a.add (i * 2)) 2 = some [.int .i64 y.f0, .int .i64 y.f1]) (fun i hi => by
      obtain ⟨cs', h1, h2⟩ := hr i hi
      obtain ⟨y, rfl⟩ := in_fr h2
      exact ⟨y, h1⟩)
    refine ⟨some a, n, m, (List.range n).map y, rfl, ⟨by simp, by omega, fun h0 => ⟨a, rfl, fun j p hj => ?_⟩⟩, hl, by simp⟩
    have hjn : j < n := by
      rcases Nat.lt_or_ge j n with h | h
      · exact h
      · rw [List.getElem?_eq_none (by simpa using h)] at hj; cases hj
    have hp : p = y j := by
      rw [List.getElem?_map, List.getElem?_range hjn] at hj
      simpa using hj.symm
    subst hp
    refine ⟨_, rfl, k129_mk W (y j), fun q u hq => ?_⟩
    have h1 := hy j (by omega)
    obtain ⟨_, _, hcell⟩ := World.cells?_some h1
    have hq3 : q < 2 := by
      rcases Nat.lt_or_ge q 2 with h | h
      · exact h
      · rw [List.getElem?_eq_none (by simpa using h)] at hq; cases hq
    show W.cell? (a.add (j * 2 + q)) = some u
    rw [← Deep.add_add]
    exact (hcell q hq3).trans hq
/-- A row of rows of fractions as it came in. -/
def InFss (W : World) (A : Option Addr) (len cap : Nat) (l : List (List S129)) : Prop := Kd.C (Kd.slice 129 k129) W A len l ∧ len ≤ cap ∧ l.length = len
theorem in_fss {H : Type} {enc : TypeId × Value → H} {W : World} {base : Nat} {held : Bool} {A : Option Addr} {len cap fuel : Nat} {x : DataW H × List MemPlace}
    (h : DataW.trod enc Try.prog W base (fun _ => true) held fuel 41 [.slice A len cap] = some x) : ∃ l, InFss W A len cap l := by
  rcases open_slice Try.underlying41 h with ⟨hcs, _⟩ | ⟨a, n, c, m, f, D, Pl, hcs, _, hl, hm, hmm, _, hr⟩
  · simp only [List.cons.injEq, Value.slice.injEq, and_true] at hcs
    obtain ⟨rfl, rfl, rfl⟩ := hcs
    exact ⟨[], Kd.C_nil _ _, Nat.le_refl _, rfl⟩
  · simp only [List.cons.injEq, Value.slice.injEq, and_true] at hcs
    obtain ⟨rfl, rfl, rfl⟩ := hcs
    simp only [if_true] at hmm
    subst hmm
    have hM : maxLen = 9223372036854775807 := rfl
    have hc3 : Try.prog.cellsOf 75 = 1 := by kernel_rfl
    rw [hc3] at hr
    obtain ⟨y, hy⟩ := choose_lt (n := m) (p := fun i (y : List S129) => ∃ B k, W.cells? base (a.add (i * 1)) 1 = some [.slice B y.length k] ∧ InFrs W B y.length k y) (fun i hi => by
      obtain ⟨cs', h1, h2⟩ := hr i hi
      obtain ⟨w0, rfl⟩ : ∃ w0, cs' = [w0] := by
        have := (World.cells?_some h1).2.1
        rcases cs' with _ | ⟨w0, _ | ⟨w1, r⟩⟩
        · simp at this
        · exact ⟨w0, rfl⟩
        · simp at this
      obtain ⟨B, ln, k, l, rfl, hf⟩ := in_frs h2
      obtain rfl := hf.2.2
      exact ⟨l, B, k, h1, hf⟩)
    refine ⟨(List.range len).map y, ⟨by simp, by omega, fun h0 => ⟨a, rfl, fun j p hj => ?_⟩⟩, hl, by simp⟩
    have hjn : j < len := by
      rcases Nat.lt_or_ge j len with h | h
      · exact h
      · rw [List.getElem?_eq_none (by simpa using h)] at hj; cases hj
    have hp : p = y j := by
      rw [List.getElem?_map, List.getElem?_range hjn] at hj
      simpa using hj.symm
    subst hp
    obtain ⟨B, k, h1, hf⟩ := hy j (by omega)
    refine ⟨_, rfl, ⟨B, k, rfl, hf.2.1, hf.1⟩, fun q u hq => ?_⟩
    obtain ⟨_, _, hcell⟩ := World.cells?_some h1
    have hq3 : q < 1 := by
      rcases Nat.lt_or_ge q 1 with h | h
      · exact h
      · rw [List.getElem?_eq_none (by simpa using h)] at hq; cases hq
    show W.cell? (a.add (j * 1 + q)) = some u
    rw [← Deep.add_add]
    exact (hcell q hq3).trans hq
end Go.Proofs.Ytfbkjlgibpmpoaa.Hand
