/- Plain lemmas: is a text a word, as both programs ask it? -/
import Derived.Test.YtbpipmkgclkhgaaPx2
import Derived.Test.YtbpipmkgclkhgaaPx3
import Derived.Test.YtbpipmkgclkhgaaBaseInts0
namespace Go.Proofs.Ytbpipmkgclkhgaa.Pure
open Go.RowKit Go.Proofs.Ytbpipmkgclkhgaa.P Go.Proofs.YtbpipmkgclkhgaaW.PrintWords Go.Proofs.YtbpipmkgclkhgaaW.PrintLast
set_option linter.unusedVariables false
set_option linter.unusedSimpArgs false

def isWd (d : Int) (s : ByteArray) : Nat → Nat → Bool
  | 0, _ => true
  | n + 1, i => (decide (48 ≤ bt s i) && decide (bt s i < 48 + d)) && isWd d s n (i + 1)
theorem isWd_fits (d : Int) (s : ByteArray) : ∀ n i, isWd d s n i = true → ∀ q : Nat, i ≤ q → q < i + n → (bt s q - 48) % 256 < d := by
  intro n
  induction n with
  | zero => intro i _ q h1 h2; omega
  | succ n ih =>
    intro i h q h1 h2
    simp only [isWd, Bool.and_eq_true, decide_eq_true_eq] at h
    by_cases e : q = i
    · subst e; have := bt_range s q; omega
    · exact ih (i + 1) h.2 q (by omega) (by omega)
theorem spec_l01Word_l0 (d : Int) (hd : 1 ≤ d) (hd3 : d ≤ 3) (s : ByteArray) (hs : s.size ≤ 1048576) : ∀ n k i, i + n = s.size → n < k → spec_l01Word.l0 k d s (i : Int) = some (isWd d s n i) := by
  intro n
  induction n with
  | zero =>
    intro k i h hk
    obtain ⟨k, rfl⟩ : ∃ m, k = m + 1 := ⟨k - 1, by omega⟩
    rw [spec_l01Word.l0, if_neg (by omega)]; rfl
  | succ n ih =>
    intro k i h hk
    obtain ⟨k, rfl⟩ : ∃ m, k = m + 1 := ⟨k - 1, by omega⟩
    have hb := bt_range s i
    rw [spec_l01Word.l0, if_pos (by omega), if_pos (by omega), wrap_nat _ (by omega), ih k (i + 1) (by omega) (by omega), isWd]
    by_cases h1 : bt s i < 48
    · rw [if_pos h1, decide_eq_false (by omega : ¬ 48 ≤ bt s i)]; rfl
    · rw [if_neg h1, decide_eq_true (by omega : 48 ≤ bt s i)]
      by_cases h2 : (bt s i - 48) % 256 ≥ d
      · rw [if_pos h2, decide_eq_false (by omega : ¬ bt s i < 48 + d)]; rfl
      · rw [if_neg h2, decide_eq_true (by omega : bt s i < 48 + d)]; simp
theorem impl_isWord_l0 (d : Int) (hd : 1 ≤ d) (hd3 : d ≤ 3) (s : ByteArray) (hs : s.size ≤ 1048576) : ∀ n k i, i + n = s.size → n < k → impl_isWord.l0 k d s 1099511627776 (s.size : Int) (i : Int) = some (isWd d s n i) := by
  intro n
  induction n with
  | zero =>
    intro k i h hk
    obtain ⟨k, rfl⟩ : ∃ m, k = m + 1 := ⟨k - 1, by omega⟩
    rw [impl_isWord.l0, if_neg (by omega), decide_eq_true (by omega)]; rfl
  | succ n ih =>
    intro k i h hk
    obtain ⟨k, rfl⟩ : ∃ m, k = m + 1 := ⟨k - 1, by omega⟩
    have hb := bt_range s i
    rw [impl_isWord.l0, if_pos (by omega), if_pos (by omega), if_pos (by omega), wrap_nat _ (by omega), wrap_of (bt s i) (by omega) (by omega), wrap_of (48 + d) (by omega) (by omega), ih k (i + 1) (by omega) (by omega), isWd]
    by_cases h1 : bt s i < 48
    · rw [if_pos h1, decide_eq_false (by omega : ¬ 48 ≤ bt s i)]; rfl
    · rw [if_neg h1, decide_eq_true (by omega : 48 ≤ bt s i)]
      by_cases h2 : bt s i ≥ 48 + d
      · rw [if_pos h2, decide_eq_false (by omega : ¬ bt s i < 48 + d)]; rfl
      · rw [if_neg h2, decide_eq_true (by omega : bt s i < 48 + d)]; simp
theorem isWd_ok (d : Int) (s : ByteArray) : ∀ n i, isWd d s n i = true → ∀ q : Nat, i ≤ q → q < i + n → 48 ≤ bt s q ∧ bt s q < 48 + d := by
  intro n
  induction n with
  | zero => intro i _ q h1 h2; omega
  | succ n ih =>
    intro i h q h1 h2
    simp only [isWd, Bool.and_eq_true, decide_eq_true_eq] at h
    by_cases e : q = i
    · subst e; exact h.1
    · exact ih (i + 1) h.2 q (by omega) (by omega)
theorem spec_l01Word_f (k : Nat) (d : Int) (hd : 1 ≤ d) (hd3 : d ≤ 3) (s : ByteArray) (hs : s.size ≤ 1048576) (hk : s.size < k) : spec_l01Word.f k d s = some (isWd d s s.size 0) :=
  spec_l01Word_l0 d hd hd3 s hs s.size k 0 (by omega) hk
theorem impl_isWord_f (k : Nat) (d : Int) (hd : 1 ≤ d) (hd3 : d ≤ 3) (s : ByteArray) (hs : s.size ≤ 1048576) (hk : s.size < k) : impl_isWord.f k d s 1099511627776 = some (isWd d s s.size 0) :=
  impl_isWord_l0 d hd hd3 s hs s.size k 0 (by omega) hk

end Go.Proofs.Ytbpipmkgclkhgaa.Pure
