/- A literal list of lists that is read at once: what it reads as. -/
import Derived.Test.YtmgkalljgglabaaHand
namespace Go.Proofs.Ytmgkalljgglabaa.Hand
open Go.RowKit Go.Proofs.Ytmgkalljgglabaa.P Go.Proofs.YtmgkalljgglabaaW.PrintWords Go.Proofs.YtmgkalljgglabaaW.PrintLast Go.Proofs.YtmgkalljgglabaaW.PrintMore
set_option linter.unusedSimpArgs false
set_option linter.unusedVariables false
theorem C_lit2 (W : World) (t : Nat) (A1 : Option Addr) (c1 : Nat) (l1 : List Int) (A2 : Option Addr) (c2 : Nat) (l2 : List Int) (h1 : (Kd.int .i64).C W A1 l1.length l1) (k1 : l1.length ≤ c1) (h2 : (Kd.int .i64).C W A2 l2.length l2) (k2 : l2.length ≤ c2) :
    Kd.C (Kd.slice 2 (Kd.int .i64)) (W.alloc (.cells #[.slice A1 l1.length c1, .slice A2 l2.length c2] t)) (some ⟨W.heap.size, 0, none⟩) ([l1, l2] : List (List Int)).length [l1, l2] := by
  refine ⟨rfl, by simp, fun h0 => ⟨_, rfl, fun j p hj => ?_⟩⟩
  match j, hj with
  | 0, hj =>
    obtain rfl : l1 = p := by simpa using hj
    refine ⟨[.slice A1 l1.length c1], rfl, ⟨A1, c1, rfl, k1, Kd.C_alloc h1 _⟩, fun i u hi => ?_⟩
    match i, hi with
    | 0, hi =>
      obtain rfl : (Value.slice A1 l1.length c1) = u := by simpa using hi
      show World.cell? _ (Addr.add _ (0 * 1 + 0)) = _
      simp [Addr.add]
  | 1, hj =>
    obtain rfl : l2 = p := by simpa using hj
    refine ⟨[.slice A2 l2.length c2], rfl, ⟨A2, c2, rfl, k2, Kd.C_alloc h2 _⟩, fun i u hi => ?_⟩
    match i, hi with
    | 0, hi =>
      obtain rfl : (Value.slice A2 l2.length c2) = u := by simpa using hi
      show World.cell? _ (Addr.add _ (1 * 1 + 0)) = _
      simp [Addr.add]
  | j + 2, hj => simp at hj
theorem C_lit4 (W : World) (t : Nat) (A1 : Option Addr) (c1 : Nat) (l1 : List Int) (A2 : Option Addr) (c2 : Nat) (l2 : List Int) (A3 : Option Addr) (c3 : Nat) (l3 : List Int) (A4 : Option Addr) (c4 : Nat) (l4 : List Int) (h1 : (Kd.int .i64).C W A1 l1.length l1) (k1 : l1.length ≤ c1) (h2 : (Kd.int .i64).C W A2 l2.length l2) (k2 : l2.length ≤ c2) (h3 : (Kd.int .i64).C W A3 l3.length l3) (k3 : l3.length ≤ c3) (h4 : (Kd.int .i64).C W A4 l4.length l4) (k4 : l4.length ≤ c4) :
    Kd.C (Kd.slice 2 (Kd.int .i64)) (W.alloc (.cells #[.slice A1 l1.length c1, .slice A2 l2.length c2, .slice A3 l3.length c3, .slice A4 l4.length c4] t)) (some ⟨W.heap.size, 0, none⟩) ([l1, l2, l3, l4] : List (List Int)).length [l1, l2, l3, l4] := by
  refine ⟨rfl, by simp, fun h0 => ⟨_, rfl, fun j p hj => ?_⟩⟩
  match j, hj with
  | 0, hj =>
    obtain rfl : l1 = p := by simpa using hj
    refine ⟨[.slice A1 l1.length c1], rfl, ⟨A1, c1, rfl, k1, Kd.C_alloc h1 _⟩, fun i u hi => ?_⟩
    match i, hi with
    | 0, hi =>
      obtain rfl : (Value.slice A1 l1.length c1) = u := by simpa using hi
      show World.cell? _ (Addr.add _ (0 * 1 + 0)) = _
      simp [Addr.add]
  | 1, hj =>
    obtain rfl : l2 = p := by simpa using hj
    refine ⟨[.slice A2 l2.length c2], rfl, ⟨A2, c2, rfl, k2, Kd.C_alloc h2 _⟩, fun i u hi => ?_⟩
    match i, hi with
    | 0, hi =>
      obtain rfl : (Value.slice A2 l2.length c2) = u := by simpa using hi
      show World.cell? _ (Addr.add _ (1 * 1 + 0)) = _
      simp [Addr.add]
  | 2, hj =>
    obtain rfl : l3 = p := by simpa using hj
    refine ⟨[.slice A3 l3.length c3], rfl, ⟨A3, c3, rfl, k3, Kd.C_alloc h3 _⟩, fun i u hi => ?_⟩
    match i, hi with
    | 0, hi =>
      obtain rfl : (Value.slice A3 l3.length c3) = u := by simpa using hi
      show World.cell? _ (Addr.add _ (2 * 1 + 0)) = _
      simp [Addr.add]
  | 3, hj =>
    obtain rfl : l4 = p := by simpa using hj
    refine ⟨[.slice A4 l4.length c4], rfl, ⟨A4, c4, rfl, k4, Kd.C_alloc h4 _⟩, fun i u hi => ?_⟩
    match i, hi with
    | 0, hi =>
      obtain rfl : (Value.slice A4 l4.length c4) = u := by simpa using hi
      show World.cell? _ (Addr.add _ (3 * 1 + 0)) = _
      simp [Addr.add]
  | j + 4, hj => simp at hj
end Go.Proofs.Ytmgkalljgglabaa.Hand
