/- The law on SignatureOfWord: both programs come to the same. -/
import Derived.Test.YtcklefgkbddlhaaPx7
import Derived.Test.YtcklefgkbddlhaaBaseSigR
namespace Go.Proofs.Ytcklefgkbddlhaa.Pure
open Go.RowKit Go.Proofs.Ytcklefgkbddlhaa.P Go.Proofs.Ytcklefgkbddlhaa.Tab Go.Proofs.YtcklefgkbddlhaaW.PrintWords Go.Proofs.YtcklefgkbddlhaaW.PrintLast
set_option linter.unusedVariables false
set_option linter.unusedSimpArgs false

theorem spec_sig_f (d n : Int) (l : List Int) : Ev (fun k => spec_SignatureOfWord.f k d n l) (sigRes d n l) := by
  refine Ev.bind (f := fun (k : Nat) (t : Int) => (if t = 0 then ((spec_l09Signature.f k d n l).bind fun b => (some (b.1, b.2.1, b.2.2, (0 : Int)))) else (some (0, 0, [], t)))) (spec_code_f d n l) ?_
  unfold sigRes
  by_cases h : isGroup d l = true ∧ lvlOk d n = true
  · rw [if_pos h, if_pos h]
    refine Ev.congr (fun k => if_pos rfl) ?_
    have hb := lvlOk_bounds h.2
    obtain ⟨_, _, hm⟩ := isGroup_mem' h.1
    have hll := isGroup_length h.1
    have h2 := h.2
    obtain ⟨D, rfl⟩ : ∃ D : Nat, d = (D : Int) := ⟨d.toNat, by omega⟩
    obtain ⟨N, rfl⟩ : ∃ N : Nat, n = (N : Int) := ⟨n.toNat, by omega⟩
    simp only [Int.toNat_natCast]
    exact Ev.bind (f := fun (_ : Nat) (b : Int × Int × List S89) => some (b.1, b.2.1, b.2.2, (0 : Int))) (signature_f h2 l hm hll) (Ev.now _)
  · rw [if_neg h, if_neg h]
    exact Ev.congr (fun k => if_neg (by decide)) (Ev.now _)
end Go.Proofs.Ytcklefgkbddlhaa.Pure
