/- Plain lemmas: words one behind the other, reduced. -/
import Derived.Test.YtmgkalljgglabaaPx2
import Derived.Test.YtmgkalljgglabaaPx3
import Derived.Test.YtmgkalljgglabaaBaseReduce2
import Derived.Test.YtmgkalljgglabaaBaseInverse2
namespace Go.Proofs.Ytmgkalljgglabaa.Pure
open Go.RowKit Go.Proofs.Ytmgkalljgglabaa.P Go.Proofs.YtmgkalljgglabaaW.PrintWords Go.Proofs.YtmgkalljgglabaaW.PrintLast
set_option linter.unusedVariables false
set_option linter.unusedSimpArgs false

theorem rdL_nat (l : List (List Int)) (i : Nat) (h : i < l.length) : rd_L1 l (i : Int) = l[i] := by simp [rd_L1, List.getD_eq_getElem?_getD, h]
def toldRes (x : List Int) : List Int × Int := if ((redW x).length : Int) > 12 then ([], 3) else (redW x, 0)
theorem toldRes_length (x : List Int) : (toldRes x).1.length ≤ 12 := by
  unfold toldRes
  split
  · simp
  · simp only; omega
theorem spec_l09Told_l0 (L : List (List Int)) (hl : L.length ≤ 10) (hL : L.flatten.length ≤ 1000) : ∀ d k i (x : List Int), i + d = L.length → d + 2000 < k → x.length + (L.drop i).flatten.length ≤ 1000 → spec_l09Told.l0 k L x (i : Int) = some (toldRes (x ++ (L.drop i).flatten)) := by
  intro d
  induction d with
  | zero =>
    intro k i x h hk hx
    obtain ⟨k, rfl⟩ : ∃ m, k = m + 1 := ⟨k - 1, by omega⟩
    rw [List.drop_of_length_le (by omega)] at hx ⊢
    simp only [List.flatten_nil, List.append_nil]
    rw [spec_l09Told.l0, if_neg (by omega), spec_l09Reduce_f k x (by omega) (by omega), Option.bind_some]
    unfold toldRes
    split <;> rfl
  | succ d ih =>
    intro k i x h hk hx
    obtain ⟨k, rfl⟩ : ∃ m, k = m + 1 := ⟨k - 1, by omega⟩
    rw [List.drop_eq_getElem_cons (show i < L.length by omega), List.flatten_cons, List.length_append] at hx
    rw [spec_l09Told.l0, if_pos (by omega), if_pos (by omega), rdL_nat L i (by omega), if_pos (by omega), wrap_nat _ (by omega), ih k (i + 1) _ (by omega) (by omega) (by rw [List.length_append]; omega), List.drop_eq_getElem_cons (show i < L.length by omega), List.flatten_cons, List.append_assoc]
theorem spec_l09Told_f (k : Nat) (L : List (List Int)) (hl : L.length ≤ 10) (hL : L.flatten.length ≤ 1000) (hk : 3000 ≤ k) : spec_l09Told.f k L = some (toldRes L.flatten) := by
  have := spec_l09Told_l0 L hl hL L.length k 0 [] (by omega) (by omega) (by simpa using hL)
  simpa [spec_l09Told.f] using this
theorem impl_joinedWord_f (k : Nat) (L : List (List Int)) (hL : L.flatten.length ≤ 1000) (hk : 3000 ≤ k) : impl_joinedWord.f k L = some (toldRes L.flatten) := by
  unfold impl_joinedWord.f slices_Concat_int64_int64.f
  rw [if_pos (by omega), Option.bind_some, impl_reduceWord_f k _ (by omega) (by omega), Option.bind_some]
  unfold toldRes
  split <;> rfl
def mulRes (d : Int) (v w : List Int) : List Int × Int := if isGroup d v = true then (if isGroup d w = true then toldRes [v, w].flatten else ([], 2)) else ([], 2)
def comRes (d : Int) (v w : List Int) : List Int × Int := if isGroup d v = true then (if isGroup d w = true then toldRes [invW v, invW w, v, w].flatten else ([], 2)) else ([], 2)
theorem mulRes_length (d : Int) (v w : List Int) : (mulRes d v w).1.length ≤ 12 := by
  unfold mulRes
  split
  · split
    · exact toldRes_length _
    · simp
  · simp
theorem comRes_length (d : Int) (v w : List Int) : (comRes d v w).1.length ≤ 12 := by
  unfold comRes
  split
  · split
    · exact toldRes_length _
    · simp
  · simp
theorem two_length {d : Int} {v w : List Int} (h1 : isGroup d v = true) (h2 : isGroup d w = true) : [v, w].flatten.length ≤ 1000 := by
  have := isGroup_length h1; have := isGroup_length h2
  simp only [List.flatten_cons, List.flatten_nil, List.append_nil, List.length_append]
  omega
theorem four_length {d : Int} {v w : List Int} (h1 : isGroup d v = true) (h2 : isGroup d w = true) : [invW v, invW w, v, w].flatten.length ≤ 1000 := by
  have := isGroup_length h1; have := isGroup_length h2
  simp only [List.flatten_cons, List.flatten_nil, List.append_nil, List.length_append, invW_length]
  omega

end Go.Proofs.Ytmgkalljgglabaa.Pure
