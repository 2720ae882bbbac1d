/- Plain lemmas: the product of a word, in both programs, with what they ask first. -/
import Derived.Test.YtbpipmkgclkhgaaPx7
import Derived.Test.YtbpipmkgclkhgaaPx10
import Derived.Test.YtbpipmkgclkhgaaBaseProd
import Derived.Test.YtbpipmkgclkhgaaBaseWd
namespace Go.Proofs.Ytbpipmkgclkhgaa.Pure
open Go.RowKit Go.Proofs.Ytbpipmkgclkhgaa.P Go.Proofs.YtbpipmkgclkhgaaW.PrintWords Go.Proofs.YtbpipmkgclkhgaaW.PrintLast
set_option linter.unusedVariables false
set_option linter.unusedSimpArgs false

theorem areTabs_d {d : Int} {l : List (List (List Int))} (h : areTabs d l = true) : 1 ≤ d ∧ d ≤ 3 ∧ (l.length : Int) = d := by
  unfold areTabs at h
  simp only [Bool.and_eq_true, decide_eq_true_eq] at h
  exact ⟨h.1.1.1.1, h.1.1.1.2, h.1.1.2⟩
def poRes (d : Int) (l : List (List (List Int))) (s : ByteArray) : List (List Int) × Int :=
  if (areTabs d l && isWd d s s.size 0) = true then (if (s.size : Int) > 5 then ([], 2) else (if (prodR (dimOf l).toNat (fun q => ent (l.getD q [])) s s.size 0 eye).2 = true then ((prodR (dimOf l).toNat (fun q => ent (l.getD q [])) s s.size 0 eye).1, 0) else ([], 3))) else ([], 1)
theorem wd_okW {d : Int} {s : ByteArray} {L : Nat} (hL : (L : Int) = d) (h : isWd d s s.size 0 = true) : okW L s := by
  intro i hi
  have := isWd_ok d s s.size 0 h i (by omega) (by omega)
  omega
theorem spec_ProductOfWord_f (K : Nat) (d : Int) (l : List (List (List Int))) (s : ByteArray) (hk : 2000000 ≤ K) (hl : l.length ≤ 4000000) (hs : s.size ≤ 1048576) : spec_ProductOfWord.f K d l s = some (poRes d l s) := by
  unfold spec_ProductOfWord.f poRes
  obtain ⟨K, rfl⟩ : ∃ q, K = q + 1 := ⟨K - 1, by omega⟩
  rw [spec_l08Are_f _ d l (by omega) hl, Option.bind_some]
  by_cases h : areTabs d l = true
  · obtain ⟨d1, d3, dl⟩ := areTabs_d h
    have T := areTabs_tabs h
    rw [if_pos h, spec_l01Word_f _ d d1 d3 s hs (by omega), Option.bind_some, spec_ProductOfWord.j0]
    by_cases hw : isWd d s s.size 0 = true
    · rw [if_neg (by simp [hw]), if_pos (show (areTabs d l && isWd d s s.size 0) = true by rw [h, hw]; rfl)]
      by_cases h5 : (s.size : Int) > 5
      · rw [if_pos h5, if_pos h5]
      · rw [if_neg h5, if_neg h5, spec_product_f T (by omega) s (wd_okW dl hw) (by omega) K (by omega), Option.bind_some]
        split <;> rfl
    · rw [if_pos (by simp [hw]), if_neg (by simp [hw])]
  · rw [if_neg h, spec_ProductOfWord.j0, if_pos rfl, if_neg (by simp [h])]
theorem impl_ProductOfWord_f (K : Nat) (d : Int) (l : List (List (List Int))) (s : ByteArray) (hk : 2000000 ≤ K) (hs : s.size ≤ 1048576) : impl_ProductOfWord.f K d l s = some (poRes d l s) := by
  unfold impl_ProductOfWord.f poRes
  obtain ⟨K, rfl⟩ : ∃ q, K = q + 1 := ⟨K - 1, by omega⟩
  rw [impl_AreTables_f d l, Option.bind_some]
  by_cases h : areTabs d l = true
  · obtain ⟨d1, d3, dl⟩ := areTabs_d h
    have T := areTabs_tabs h
    rw [if_pos h, impl_isWord_f _ d d1 d3 s hs (by omega), Option.bind_some, impl_ProductOfWord.j0]
    by_cases hw : isWd d s s.size 0 = true
    · rw [if_neg (by simp [hw]), if_pos (show (areTabs d l && isWd d s s.size 0) = true by rw [h, hw]; rfl)]
      by_cases h5 : (s.size : Int) > 5
      · rw [if_pos h5, if_pos h5]
      · rw [if_neg h5, if_neg h5, impl_product_f T (by omega) s (wd_okW dl hw) (by omega) K (by omega), Option.bind_some]
        split <;> rfl
    · rw [if_pos (by simp [hw]), if_neg (by simp [hw])]
  · rw [if_neg h, impl_ProductOfWord.j0, if_pos rfl, if_neg (by simp [h])]
theorem poRes_small (d : Int) (l : List (List (List Int))) (s : ByteArray) : (poRes d l s).1 = [] ∨ ∃ n f, n ≤ 6 ∧ (poRes d l s).1 = mat n f := by
  unfold poRes
  by_cases h : (areTabs d l && isWd d s s.size 0) = true
  · rw [if_pos h]
    have T := areTabs_tabs (d := d) (l := l) (by simp only [Bool.and_eq_true] at h; exact h.1)
    split
    · exact .inl rfl
    · split
      · rcases prodR_form (dimOf l).toNat (fun q => ent (l.getD q [])) s s.size 0 eye with ⟨g, hg⟩ | hg
        · exact .inr ⟨_, g, T.dim, by rw [hg]⟩
        · rw [hg]; exact .inl rfl
      · exact .inl rfl
  · rw [if_neg h]; exact .inl rfl

end Go.Proofs.Ytbpipmkgclkhgaa.Pure
