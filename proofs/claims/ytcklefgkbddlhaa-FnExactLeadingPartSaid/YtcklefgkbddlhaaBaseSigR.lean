/- Plain lemmas: the code of a group word, and how many terms a signature has. -/
import Derived.Test.YtcklefgkbddlhaaPx4
import Derived.Test.YtcklefgkbddlhaaBaseSigS
namespace Go.Proofs.Ytcklefgkbddlhaa.Pure
open Go.RowKit Go.Proofs.Ytcklefgkbddlhaa.P Go.Proofs.Ytcklefgkbddlhaa.Tab Go.Proofs.YtcklefgkbddlhaaW.PrintWords Go.Proofs.YtcklefgkbddlhaaW.PrintLast
set_option linter.unusedVariables false
set_option linter.unusedSimpArgs false

theorem spec_code_f (d n : Int) (l : List Int) : Ev (fun k => spec_l09Code.f k d n l) (if isGroup d l = true ∧ lvlOk d n = true then 0 else 2) := by
  have hg : Ev (fun k => spec_l09Is.f k d l) (isGroup d l) := ⟨20, fun k hk => spec_l09Is_f k d l hk⟩
  refine Ev.congr (f := fun k => if lvlOk d n = true then (spec_l09Is.f k d l).bind fun b => (if b = true then some (0 : Int) else some 2) else some 2) (fun k => by unfold spec_l09Code.f; rw [spec_sizes_f, Option.bind_some]) ?_
  cases h2 : lvlOk d n with
  | false =>
    rw [if_neg (by simp)]
    exact Ev.congr (fun k => if_neg (by simp)) (Ev.now _)
  | true =>
    refine Ev.congr (fun k => if_pos rfl) ?_
    refine Ev.bind (f := fun (_ : Nat) (b : Bool) => if b = true then some (0 : Int) else some 2) hg ?_
    cases h1 : isGroup d l with
    | false => rw [if_neg (by simp), if_neg (by simp)]; exact Ev.now _
    | true => rw [if_pos rfl, if_pos ⟨rfl, rfl⟩]; exact Ev.now _
theorem sig_terms_small (D N : Nat) (hl : lvlOk (D : Int) (N : Int) = true) (vs : List S27) : (termsOf (allW D (N + 1) 0) vs (allW D (N + 1) 0).length).length ≤ 1000 := by
  rw [termsOf_part]
  exact Nat.le_trans (partT_length _ _ _ _) (allW_length D N hl).2
theorem sigRes_small (d n : Int) (l : List Int) : (sigRes d n l).2.2.1.length ≤ 1000 := by
  unfold sigRes
  by_cases h : isGroup d l = true ∧ lvlOk d n = true
  · rw [if_pos h]
    have hb := lvlOk_bounds h.2
    exact sig_terms_small d.toNat n.toNat (by rw [show ((d.toNat : Nat) : Int) = d by omega, show ((n.toNat : Nat) : Int) = n by omega]; exact h.2) _
  · rw [if_neg h]
    exact Nat.zero_le _
end Go.Proofs.Ytcklefgkbddlhaa.Pure
