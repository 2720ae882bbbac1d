/- Plain lemmas on the letter sums of group words. -/
import Derived.Test.YtmgkalljgglabaaPx12
import Derived.Test.YtmgkalljgglabaaPx13
import Derived.Test.YtmgkalljgglabaaBaseGroup
import Derived.Test.YtmgkalljgglabaaBaseAdded
namespace Go.Proofs.Ytmgkalljgglabaa.Pure
open Go.RowKit Go.Proofs.Ytmgkalljgglabaa.P Go.Proofs.YtmgkalljgglabaaW.PrintWords Go.Proofs.YtmgkalljgglabaaW.PrintLast
set_option linter.unusedVariables false
set_option linter.unusedSimpArgs false

theorem isGroup_mem' {d : Int} {l : List Int} (h : isGroup d l = true) : 1 ≤ d ∧ d ≤ 3 ∧ ∀ x ∈ l, x ≠ 0 ∧ -d ≤ x ∧ x ≤ d := by
  unfold isGroup at h
  simp only [Bool.and_eq_true, decide_eq_true_eq, Bool.not_eq_true', List.any_eq_false, Bool.or_eq_true, not_or] at h
  obtain ⟨⟨⟨h1, h2⟩, _⟩, h3⟩ := h
  refine ⟨h1, h2, fun x hx => ?_⟩
  obtain ⟨h4, h5⟩ := h3 x hx
  have h6 : Hand.upToB x d = true := by
    cases e : Hand.upToB x d
    · rw [e] at h5; simp at h5
    · rfl
  unfold Hand.upToB at h6
  rw [show wrap64 (-d) = -d from by unfold wrap64; omega] at h6
  simp only [Bool.and_eq_true, decide_eq_true_eq] at h6
  exact ⟨h4, h6.1, h6.2⟩
/-- The step of a number of a group word for d letters. -/
def stepOf (d n : Int) : List Int := (List.replicate d.toNat 0).set ((mx n (-n)) - 1).toNat (if n > 0 then 1 else -1)
theorem stepOf_length (d n : Int) : (stepOf d n).length = d.toNat := by simp [stepOf]
theorem impl_pathOfWord_l0 (d : Int) (hd : 1 ≤ d) (hd3 : d ≤ 3) (l : List Int) (hl : l.length ≤ 12) (hm : ∀ x ∈ l, x ≠ 0 ∧ -d ≤ x ∧ x ≤ d) : ∀ n k i (x : List (List Int)), i + n = l.length → n < k → x.length = i → impl_pathOfWord.l0 k d x l (l.length : Int) (i : Int) = some (x ++ (l.drop i).map (stepOf d)) := by
  intro n
  induction n with
  | zero =>
    intro k i x h hk hx
    obtain ⟨k, rfl⟩ : ∃ m, k = m + 1 := ⟨k - 1, by omega⟩
    simp only [impl_pathOfWord.l0]
    rw [if_neg (by omega), List.drop_of_length_le (by omega)]
    simp
  | succ n ih =>
    intro k i x h hk hx
    obtain ⟨k, rfl⟩ : ∃ m, k = m + 1 := ⟨k - 1, by omega⟩
    have hb := hm l[i] (List.getElem_mem (by omega))
    simp only [impl_pathOfWord.l0, impl_size.f, Option.bind_some]
    rw [if_pos (by omega), if_pos (by omega), if_pos (by omega), if_pos (by omega), if_pos (by omega), rd_nat l i (by omega), wrap_nat _ (by omega), List.drop_eq_getElem_cons (show i < l.length by omega), List.map_cons]
    have e1 : wrap64 (-l[i]) = -l[i] := wrap_of _ (by omega) (by omega)
    rw [e1]
    have e2 : 1 ≤ mx l[i] (-l[i]) ∧ mx l[i] (-l[i]) ≤ d := by unfold mx; omega
    rw [wrap_of (mx l[i] (-l[i]) - 1) (by omega) (by omega), if_neg (by omega), if_pos (by omega), if_pos (by simp; omega), if_pos (by omega)]
    have e3 : wrap64 (Int.tdiv l[i] (mx l[i] (-l[i]))) = if l[i] > 0 then 1 else -1 := by
      by_cases h0 : l[i] > 0
      · rw [if_pos h0, show mx l[i] (-l[i]) = l[i] from by unfold mx; omega, Int.tdiv_self (by omega)]; exact wrap_of 1 (by omega) (by omega)
      · rw [if_neg h0, show mx l[i] (-l[i]) = -l[i] from by unfold mx; omega, Int.tdiv_neg, Int.tdiv_self (by omega)]; exact wrap_of (-1) (by omega) (by omega)
    rw [e3, ih k (i + 1) _ (by omega) (by omega) (by simp [hx])]
    simp [stepOf]
theorem impl_pathOfWord_f (k : Nat) (d : Int) (l : List Int) (h : isGroup d l = true) (hk : 20 ≤ k) : impl_pathOfWord.f k d l = some (l.map (stepOf d)) := by
  obtain ⟨h1, h2, hm⟩ := isGroup_mem' h
  have hl := isGroup_length h
  unfold impl_pathOfWord.f
  have := impl_pathOfWord_l0 d h1 h2 l hl hm l.length k 0 [] (by omega) (by omega) rfl
  simpa using this
theorem stepOf_small (d n : Int) : ∀ x ∈ stepOf d n, -1 ≤ x ∧ x ≤ 1 := by
  intro x hx
  unfold stepOf at hx
  rcases List.mem_or_eq_of_mem_set hx with h | h
  · have := List.eq_of_mem_replicate h; omega
  · subst h; split <;> omega
theorem impl_IsPath_steps (d : Int) (l : List Int) (h : isGroup d l = true) : impl_IsPath.f d (l.map (stepOf d)) = some true := by
  obtain ⟨h1, h2, hm⟩ := isGroup_mem' h
  have hl := isGroup_length h
  unfold impl_IsPath.f
  congr 1
  simp only [Bool.and_eq_true, decide_eq_true_eq, Bool.not_eq_true', List.any_eq_false, List.length_map]
  refine ⟨⟨⟨h1, h2⟩, by omega⟩, ?_⟩
  intro s hs
  obtain ⟨n, _, rfl⟩ := List.mem_map.mp hs
  rw [stepOf_length]
  have e : ((stepOf d n).any fun n => !(Hand.upToB n 100)) = false := by
    rw [List.any_eq_false]
    intro x hx
    have := stepOf_small d n x hx
    have : Hand.upToB x 100 = true := by
      unfold Hand.upToB
      rw [show wrap64 (-100) = -100 from by unfold wrap64; omega]
      simp; omega
    simp [this]
  rw [e]
  have : ((d.toNat : Nat) : Int) = d := by omega
  simp [this]
/-- One letter more. -/
def letStep (out : List Int) (n : Int) : List Int :=
  if n > 0 then out.set (n - 1).toNat (wrap64 (rd out (n - 1) + 1)) else out.set (-n - 1).toNat (wrap64 (rd out (-n - 1) - 1))
theorem letStep_length (out : List Int) (n : Int) : (letStep out n).length = out.length := by unfold letStep; split <;> simp
theorem wrap_zero (x : Int) (h : -1000 ≤ x) (h' : x ≤ 1000) : wrap64 (x + 0) = x := by unfold wrap64; omega
theorem addL_step (d n : Int) (out : List Int) (hd : 1 ≤ d) (hd3 : d ≤ 3) (hn : n ≠ 0 ∧ -d ≤ n ∧ n ≤ d) (hlen : out.length = d.toNat) (hb : ∀ x ∈ out, -1000 ≤ x ∧ x ≤ 1000) : addL out (stepOf d n) = letStep out n := by
  have hn2 : n = 1 ∨ n = 2 ∨ n = 3 ∨ n = -1 ∨ n = -2 ∨ n = -3 := by omega
  have hd2 : d = 1 ∨ d = 2 ∨ d = 3 := by omega
  rcases hd2 with rfl | rfl | rfl
  · obtain ⟨x, rfl⟩ : ∃ x, out = [x] := by
      match out, hlen with
      | [x], _ => exact ⟨x, rfl⟩
    have hx := hb x (by simp)
    rcases hn2 with rfl | rfl | rfl | rfl | rfl | rfl <;> first | (exfalso; omega) | (simp [stepOf, letStep, addL, mx, rd, wrap_zero, hx, Int.sub_eq_add_neg]; done)
  · obtain ⟨x, y, rfl⟩ : ∃ x y, out = [x, y] := by
      match out, hlen with
      | [x, y], _ => exact ⟨x, y, rfl⟩
    have hx := hb x (by simp)
    have hy := hb y (by simp)
    have ex := wrap_zero x hx.1 hx.2
    have ey := wrap_zero y hy.1 hy.2
    rw [Int.add_zero] at ex ey
    rcases hn2 with rfl | rfl | rfl | rfl | rfl | rfl <;> first | (exfalso; omega) | (simp [stepOf, letStep, addL, mx, rd, ex, ey, Int.sub_eq_add_neg]; done)
  · obtain ⟨x, y, z, rfl⟩ : ∃ x y z, out = [x, y, z] := by
      match out, hlen with
      | [x, y, z], _ => exact ⟨x, y, z, rfl⟩
    have hx := hb x (by simp)
    have hy := hb y (by simp)
    have hz := hb z (by simp)
    have ex := wrap_zero x hx.1 hx.2
    have ey := wrap_zero y hy.1 hy.2
    have ez := wrap_zero z hz.1 hz.2
    rw [Int.add_zero] at ex ey ez
    rcases hn2 with rfl | rfl | rfl | rfl | rfl | rfl <;> first | (exfalso; omega) | (simp [stepOf, letStep, addL, mx, rd, ex, ey, ez, Int.sub_eq_add_neg]; done)
theorem rd_small {out : List Int} {m : Int} (h0 : 0 ≤ m) (hb : ∀ x ∈ out, -m ≤ x ∧ x ≤ m) (i : Int) : -m ≤ rd out i ∧ rd out i ≤ m := by
  unfold rd
  by_cases h : i.toNat < out.length
  · have := hb _ (List.getElem_mem h); simpa [List.getD_eq_getElem?_getD, h] using this
  · have e : out.getD i.toNat 0 = 0 := by simp [List.getD_eq_getElem?_getD, List.getElem?_eq_none (by omega : out.length ≤ i.toNat)]
    rw [e]; omega
theorem letStep_small (out : List Int) (n m : Int) (h0 : 0 ≤ m) (hm : m ≤ 500) (hb : ∀ x ∈ out, -m ≤ x ∧ x ≤ m) : ∀ x ∈ letStep out n, -(m + 1) ≤ x ∧ x ≤ m + 1 := by
  intro x hx
  unfold letStep at hx
  split at hx
  · rcases List.mem_or_eq_of_mem_set hx with h | h
    · have := hb x h; omega
    · have := rd_small h0 hb (n - 1); rw [wrap_of _ (by omega) (by omega)] at h; omega
  · rcases List.mem_or_eq_of_mem_set hx with h | h
    · have := hb x h; omega
    · have := rd_small h0 hb (-n - 1); rw [wrap_of _ (by omega) (by omega)] at h; omega
theorem impl_EndOf_l0 (d : Int) (hd : 1 ≤ d) (hd3 : d ≤ 3) (l : List Int) (hl : l.length ≤ 12) (hm : ∀ x ∈ l, x ≠ 0 ∧ -d ≤ x ∧ x ≤ d) : ∀ n k i (x : List Int), i + n = l.length → n + 10 < k → x.length = d.toNat → (∀ y ∈ x, -(i : Int) ≤ y ∧ y ≤ i) → impl_EndOf.l0 k x (l.map (stepOf d)) ((l.map (stepOf d)).length : Int) (i : Int) = some ((l.drop i).foldl letStep x, 0) := by
  intro n
  induction n with
  | zero =>
    intro k i x h hk hx hs
    obtain ⟨k, rfl⟩ : ∃ m, k = m + 1 := ⟨k - 1, by omega⟩
    simp only [impl_EndOf.l0, List.length_map]
    rw [if_neg (by omega), List.drop_of_length_le (by omega)]
    rfl
  | succ n ih =>
    intro k i x h hk hx hs
    obtain ⟨k, rfl⟩ : ∃ m, k = m + 1 := ⟨k - 1, by omega⟩
    have hb := hm l[i] (List.getElem_mem (by omega))
    have hr : rd_L2 (l.map (stepOf d)) (i : Int) = stepOf d l[i] := by simp [rd_L2, List.getD_eq_getElem?_getD, show i < l.length by omega]
    have hq := letStep_small x l[i] i (by omega) (by omega) hs
    simp only [impl_EndOf.l0]
    rw [hr, if_pos (by simp; omega), if_pos (by omega), if_pos (by simp; omega), impl_added_f k x _ (by omega) (by rw [stepOf_length]; omega) (by rw [stepOf_length]; omega), Option.bind_some, addL_step d l[i] x hd hd3 hb hx (fun y hy => by have := hs y hy; omega), wrap_nat _ (by omega), ih k (i + 1) _ (by omega) (by omega) (by rw [letStep_length]; exact hx) (fun y hy => by have := hq y hy; omega), List.drop_eq_getElem_cons (show i < l.length by omega)]
    rfl
theorem spec_LetterSums_l0 (d : Int) (hd : 1 ≤ d) (hd3 : d ≤ 3) (l : List Int) (hl : l.length ≤ 12) (hm : ∀ x ∈ l, x ≠ 0 ∧ -d ≤ x ∧ x ≤ d) : ∀ n k i (x : List Int), i + n = l.length → n < k → x.length = d.toNat → spec_LetterSums.l0 k l x (i : Int) = some ((l.drop i).foldl letStep x, 0) := by
  intro n
  induction n with
  | zero =>
    intro k i x h hk hx
    obtain ⟨k, rfl⟩ : ∃ m, k = m + 1 := ⟨k - 1, by omega⟩
    simp only [spec_LetterSums.l0]
    rw [if_neg (by omega), List.drop_of_length_le (by omega)]
    rfl
  | succ n ih =>
    intro k i x h hk hx
    obtain ⟨k, rfl⟩ : ∃ m, k = m + 1 := ⟨k - 1, by omega⟩
    have hb := hm l[i] (List.getElem_mem (by omega))
    simp only [spec_LetterSums.l0]
    rw [if_pos (by omega), if_pos (by omega), rd_nat l i (by omega), wrap_nat _ (by omega), wrap_of (l[i] - 1) (by omega) (by omega), wrap_of (-l[i]) (by omega) (by omega), wrap_of (-l[i] - 1) (by omega) (by omega), List.drop_eq_getElem_cons (show i < l.length by omega), List.foldl_cons]
    by_cases h0 : l[i] > 0
    · rw [if_pos h0, if_pos (by omega), if_pos (by omega), ih k (i + 1) _ (by omega) (by omega) (by simpa using hx)]
      simp only [letStep, if_pos h0]
    · rw [if_neg h0, if_pos (by omega), if_pos (by omega), ih k (i + 1) _ (by omega) (by omega) (by simpa using hx)]
      simp only [letStep, if_neg h0]
/-- What LetterSums returns. -/
def lettersRes (d : Int) (l : List Int) : List Int × Int := if isGroup d l = true then (l.foldl letStep (List.replicate d.toNat 0), 0) else ([], 2)
theorem spec_LetterSums_f (k : Nat) (d : Int) (l : List Int) (hl : l.length ≤ 4000000) (hk : l.length + 20 < k) : spec_LetterSums.f k d l = some (lettersRes d l) := by
  unfold spec_LetterSums.f lettersRes
  rw [spec_l09Is_f k d l (by omega), Option.bind_some]
  split
  · next h =>
    obtain ⟨h1, h2, hm⟩ := isGroup_mem' h
    rw [if_pos (by omega), if_pos (by omega)]
    have := spec_LetterSums_l0 d h1 h2 l (isGroup_length h) hm l.length k 0 (List.replicate d.toNat 0) (by omega) (by omega) (by simp)
    simpa using this
  · rfl
theorem impl_LetterSums_f (k : Nat) (d : Int) (l : List Int) (hl : l.length ≤ 4000000) (hk : l.length + 40 < k) : impl_LetterSums.f k d l = some (lettersRes d l) := by
  unfold impl_LetterSums.f lettersRes
  rw [impl_IsGroupWord_f, Option.bind_some]
  split
  · next h =>
    obtain ⟨h1, h2, hm⟩ := isGroup_mem' h
    rw [impl_pathOfWord_f k d l h (by omega), Option.bind_some]
    unfold impl_EndOf.f
    rw [impl_IsPath_steps d l h, Option.bind_some, if_pos rfl, if_pos (by omega), if_pos (by omega)]
    have := impl_EndOf_l0 d h1 h2 l (isGroup_length h) hm l.length k 0 (List.replicate d.toNat 0) (by omega) (by omega) (by simp) (fun y hy => by have := List.eq_of_mem_replicate hy; omega)
    rw [show ((0 : Nat) : Int) = 0 from rfl] at this
    rw [this]; rfl
  · rfl
theorem letFold_length (l : List Int) : ∀ x : List Int, (l.foldl letStep x).length = x.length := by
  induction l with
  | nil => intro x; rfl
  | cons a l ih => intro x; rw [List.foldl_cons, ih, letStep_length]
theorem lettersRes_length (d : Int) (l : List Int) : (lettersRes d l).1.length ≤ 3 := by
  unfold lettersRes
  split
  · next h => obtain ⟨h1, h2, _⟩ := isGroup_mem' h; simp only [letFold_length, List.length_replicate]; omega
  · simp

end Go.Proofs.Ytmgkalljgglabaa.Pure
