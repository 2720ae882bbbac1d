/- Plain lemmas on all words of at most some letters. -/
import Derived.Test.YtcklefgkbddlhaaPx12
import Derived.Test.YtcklefgkbddlhaaBaseWordsQ
namespace Go.Proofs.Ytcklefgkbddlhaa.Pure
open Go.RowKit Go.Proofs.Ytcklefgkbddlhaa.P Go.Proofs.YtcklefgkbddlhaaW.PrintWords Go.Proofs.YtcklefgkbddlhaaW.PrintLast
set_option linter.unusedVariables false
set_option linter.unusedSimpArgs false

/-- All words of at most n letters. -/
def allW (d : Nat) : Nat → Nat → List ByteArray
  | 0, _ => []
  | e + 1, m => wordsN d m ++ allW d e (m + 1)
theorem impl_allWords_l0 (d : Nat) (hd : d ≤ 3) (n : Nat) (hn : n ≤ 5) : ∀ e k m (x5 : List ByteArray), m + e = n + 1 → e + 20001 ≤ k → x5.length + e * 243 ≤ 100000 →
    impl_allWords.l0 k (d : Int) x5 ((n + 1 : Nat) : Int) (m : Int) = some (x5 ++ allW d e m) := by
  intro e
  induction e with
  | zero =>
    intro k m x5 h hk hx
    obtain ⟨k, rfl⟩ : ∃ q, k = q + 1 := ⟨k - 1, by omega⟩
    rw [impl_allWords.l0, if_neg (by omega), allW, List.append_nil]
  | succ e ih =>
    intro k m x5 h hk hx
    obtain ⟨k, rfl⟩ : ∃ q, k = q + 1 := ⟨k - 1, by omega⟩
    have hs := wordsN_small d hd m (by omega)
    rw [impl_allWords.l0, if_pos (by omega), impl_words_f k d m hd (by omega) (by omega), Option.bind_some, if_pos (by omega), wrap_nat _ (by omega), ih k (m + 1) _ (by omega) (by omega) (by rw [List.length_append]; omega), allW, List.append_assoc]
theorem impl_allWords_f (k d n : Nat) (hd : d ≤ 3) (hn : n ≤ 5) (hk : 30000 ≤ k) : impl_allWords.f k (d : Int) (n : Int) = some (allW d (n + 1) 0) := by
  unfold impl_allWords.f
  rw [wrap_nat _ (by omega)]
  have := impl_allWords_l0 d hd n hn (n + 1) k 0 [] (by omega) (by omega) (by simp; omega)
  rwa [List.nil_append] at this

end Go.Proofs.Ytcklefgkbddlhaa.Pure
