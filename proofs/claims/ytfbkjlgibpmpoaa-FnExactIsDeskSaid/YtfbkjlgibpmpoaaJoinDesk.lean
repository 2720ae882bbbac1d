/- What a call of the law on desks comes to: the walk and the plain law together. -/
import Derived.Test.YtfbkjlgibpmpoaaHandRows
import Derived.Test.YtfbkjlgibpmpoaaHandOpenS
import Derived.Test.YtfbkjlgibpmpoaaPureFnExactIsDesk
namespace Go.Proofs.Ytfbkjlgibpmpoaa.Join
open Go.RowKit Go.Proofs.Ytfbkjlgibpmpoaa.P Go.Proofs.YtfbkjlgibpmpoaaW.PrintWords Go.Proofs.YtfbkjlgibpmpoaaW.PrintLast
set_option linter.unusedVariables false

theorem rows_small {W : World} {A : Option Addr} {l : List (List Int)} (h : Kd.C (Kd.slice 2 (Kd.int .i64)) W A l.length l) : ∀ r ∈ l, r.length ≤ 9223372036854775807 := by
  intro r hr
  obtain ⟨i, hi, rfl⟩ := List.getElem_of_mem hr
  obtain ⟨ad, A0, c0, _, _, _, hC⟩ := Hand.at_rows h (i : Int) (by omega) (by omega)
  have hy : Hand.rdR l i = l[i] := by simp [Hand.rdR, hi]
  rw [hy] at hC
  exact Kd.C_max hC
theorem FnExactIsDesk (d n : Int) (A : Option Addr) (len c : Nat) (l : List S163) (d' n' : Int) (A' : Option Addr) (len' c' : Nat) (l' : List S163) (B : Option Addr) (m q : Nat) (r : List (List Int)) (W : World)
    (h : Hand.InTerms W A len c l) (h' : Hand.InTerms W A' len' c' l') (hr : Hand.InRows W B m q r) :
    Calls Try.prog 4 #[.agg #[.int .i64 d, .int .i64 n, .slice A len c, .int .i64 d', .int .i64 n', .slice A' len' c', .slice B m q]] W fun e w' => e = .returned (.bool true) ∧ Below W.heap.size W w' := by
  obtain ⟨hC, hc, rfl, hf⟩ := h
  obtain ⟨hC', hc', rfl, hf'⟩ := h'
  obtain ⟨hR, hq, rfl, _⟩ := hr
  obtain ⟨k, hk⟩ := Pure.isDesk_law d n l d' n' l' r (fun x hx => (hf x hx).1) (Kd.C_max hC) (fun x hx => (hf' x hx).1) (Kd.C_max hC') (Kd.C_max hR) (rows_small hR)
  exact laws_FnExactIsDesk.calls k d n A c l d' n' A' c' l' B q r true W hC hc hC' hc' hR hq hk
end Go.Proofs.Ytfbkjlgibpmpoaa.Join
