/- Plain lemmas on inverses of group words. -/
import Derived.Test.YtmgkalljgglabaaPx5
import Derived.Test.YtmgkalljgglabaaBaseGroup2
namespace Go.Proofs.Ytmgkalljgglabaa.Pure
open Go.RowKit Go.Proofs.Ytmgkalljgglabaa.P Go.Proofs.YtmgkalljgglabaaW.PrintWords Go.Proofs.YtmgkalljgglabaaW.PrintLast
set_option linter.unusedVariables false
set_option linter.unusedSimpArgs false

theorem impl_multiplied_l0 (c : Int) (n : Nat) (hn : n ≤ 1000000) : ∀ d k i (p q : List Int), i + d = n → d < k → p.length = i → q.length = d → impl_multiplied.l0 k c (p ++ q) (n : Int) (i : Int) = some (p ++ q.map fun x => wrap64 (x * c)) := by
  intro d
  induction d with
  | zero =>
    intro k i p q h hk hp hq
    obtain ⟨k, rfl⟩ : ∃ m, k = m + 1 := ⟨k - 1, by omega⟩
    simp only [impl_multiplied.l0]
    rw [if_neg (by omega), List.eq_nil_of_length_eq_zero hq]
    simp
  | succ d ih =>
    intro k i p q h hk hp hq
    obtain ⟨k, rfl⟩ : ∃ m, k = m + 1 := ⟨k - 1, by omega⟩
    obtain ⟨a, q, rfl⟩ : ∃ a q', q = a :: q' := by cases q with | nil => simp at hq | cons a q => exact ⟨a, q, rfl⟩
    have hlen : (p ++ a :: q).length = i + (q.length + 1) := by simp [hp]
    have hrd : rd (p ++ a :: q) (i : Int) = a := by
      rw [rd_nat _ i (by omega), List.getElem_append_right (by omega)]
      simp [hp]
    have hset : ∀ v, (p ++ a :: q).set i v = (p ++ [v]) ++ q := by
      intro v
      rw [List.set_append_right _ _ (by omega), show i - p.length = 0 by omega]
      simp
    simp only [List.length_cons] at hq
    simp only [impl_multiplied.l0]
    rw [if_pos (by omega), if_pos (by omega), if_pos (by omega), wrap_nat _ (by omega), hrd, Int.toNat_natCast, hset, ih k (i + 1) _ _ (by omega) (by omega) (by simp [hp]) (by omega)]
    simp only [List.append_assoc, List.singleton_append, List.map_cons]
theorem impl_multiplied_f (k : Nat) (l : List Int) (c : Int) (hl : l.length ≤ 1000000) (hk : l.length < k) : impl_multiplied.f k l c = some (l.map fun x => wrap64 (x * c)) := by
  unfold impl_multiplied.f slices_Clone_int64_int64.f
  rw [if_pos (by omega), Option.bind_some]
  have := impl_multiplied_l0 c l.length hl l.length k 0 [] l (by omega) hk rfl rfl
  simpa using this
theorem Reverse_l0 : ∀ (n k : Nat) (p m q : List Int), m.length = n → (p ++ m ++ q).length ≤ 1000000 → n < k → slices_Reverse_int64_int64.l0 k (p ++ m ++ q) (p.length : Int) ((p.length : Int) + m.length - 1) = some (p ++ m.reverse ++ q) := by
  intro n
  induction n using Nat.strongRecOn with
  | ind n ih =>
    intro k p m q hm hl hk
    obtain ⟨k, rfl⟩ : ∃ m, k = m + 1 := ⟨k - 1, by omega⟩
    simp only [slices_Reverse_int64_int64.l0]
    match m, hm with
    | [], hm => rw [if_neg (by simp; omega)]; rfl
    | [a], hm => rw [if_neg (by simp)]; rfl
    | a :: b :: r, hm =>
      obtain ⟨m', z, hz⟩ : ∃ m' z, b :: r = m' ++ [z] := ⟨(b :: r).dropLast, (b :: r).getLast (by simp), (List.dropLast_concat_getLast (by simp)).symm⟩
      rw [hz] at hm hl ⊢
      have hlen : (p ++ a :: (m' ++ [z]) ++ q).length = p.length + (m'.length + 2) + q.length := by simp; omega
      have e0 : (p.length : Int) + ((a :: (m' ++ [z])).length : Int) - 1 = ((p.length + m'.length + 1 : Nat) : Int) := by simp; omega
      have e1 : rd (p ++ a :: (m' ++ [z]) ++ q) (p.length : Int) = a := by
        rw [rd_nat _ _ (by omega)]
        simp
      have e2 : rd (p ++ a :: (m' ++ [z]) ++ q) ((p.length + m'.length + 1 : Nat) : Int) = z := by
        rw [rd_nat _ _ (by omega)]
        have : p ++ a :: (m' ++ [z]) ++ q = (p ++ a :: m') ++ z :: q := by simp
        simp only [this]
        rw [List.getElem_append_right (by simp; omega)]
        simp only [List.length_append, List.length_cons, show p.length + m'.length + 1 - (p.length + (m'.length + 1)) = 0 by omega, List.getElem_cons_zero]
      rw [e0, if_pos (by omega), if_pos (by omega), if_pos (by omega), if_pos (by omega), if_pos (by omega), e1, e2, wrap_nat _ (by omega), wrap_of _ (by omega) (by omega), Int.toNat_natCast, Int.toNat_natCast]
      have e3 : ((p ++ a :: (m' ++ [z]) ++ q).set p.length z).set (p.length + m'.length + 1) a = (p ++ [z]) ++ m' ++ (a :: q) := by
        rw [List.append_assoc, List.set_append_right _ _ (by omega), Nat.sub_self]
        simp only [List.cons_append, List.set_cons_zero]
        rw [show p ++ z :: (m' ++ [z] ++ q) = (p ++ z :: m') ++ z :: q by simp, List.set_append_right _ _ (by simp; omega)]
        simp [show p.length + m'.length + 1 - (p.length + (m'.length + 1)) = 0 by omega]
      rw [e3]
      have hm2 : m'.length + 2 = n := by simpa using hm
      have := ih m'.length (by omega) k (p ++ [z]) m' (a :: q) rfl (by simp; simp at hl; omega) (by omega)
      rw [show (((p ++ [z]).length : Nat) : Int) = ((p.length + 1 : Nat) : Int) by simp, show (((p.length + 1 : Nat) : Int) + (m'.length : Int) - 1) = ((p.length + m'.length + 1 : Nat) : Int) - 1 by omega] at this
      rw [this]
      simp
theorem Reverse_f (k : Nat) (l : List Int) (hl : l.length ≤ 1000000) (hk : l.length < k) : slices_Reverse_int64_int64.f k l = some l.reverse := by
  unfold slices_Reverse_int64_int64.f
  rw [wrap_of _ (by omega) (by omega)]
  have := Reverse_l0 l.length k [] l [] rfl (by simpa using hl) hk
  simpa using this
/-- The inverse of a word. -/
def invW (l : List Int) : List Int := (l.map fun x => wrap64 (x * -1)).reverse
theorem impl_inverseWord_f (k : Nat) (l : List Int) (hl : l.length ≤ 1000000) (hk : l.length < k) : impl_inverseWord.f k l = some (invW l) := by
  unfold impl_inverseWord.f
  rw [impl_multiplied_f k l (-1) hl hk, Option.bind_some, Reverse_f k _ (by simpa using hl) (by simpa using hk)]
  rfl
theorem spec_l09Inverse_l0 (l : List Int) (hl : l.length ≤ 1000000) : ∀ d k (x : List Int), d ≤ l.length → d < k → x.length + d = l.length → spec_l09Inverse.l0 k l x ((d : Int) - 1) = some (x ++ invW (l.take d)) := by
  intro d
  induction d with
  | zero =>
    intro k x h hk hx
    obtain ⟨k, rfl⟩ : ∃ m, k = m + 1 := ⟨k - 1, by omega⟩
    simp only [spec_l09Inverse.l0]
    rw [if_neg (by omega)]
    simp [invW]
  | succ d ih =>
    intro k x h hk hx
    obtain ⟨k, rfl⟩ : ∃ m, k = m + 1 := ⟨k - 1, by omega⟩
    simp only [spec_l09Inverse.l0]
    rw [show ((d + 1 : Nat) : Int) - 1 = (d : Int) by omega]
    rw [if_pos (by omega), if_pos (by omega), if_pos (by omega), if_pos (by omega), rd_nat l d (by omega), wrap_of ((d : Int) - 1) (by omega) (by omega), ih k _ (by omega) (by omega) (by simp; omega), List.append_assoc, List.take_succ_eq_append_getElem (by omega)]
    simp only [invW, List.map_append, List.map_cons, List.map_nil, List.reverse_append, List.reverse_cons, List.reverse_nil, List.nil_append, List.singleton_append]
    rw [show l[d] * -1 = -l[d] by omega]
theorem spec_l09Inverse_f (k : Nat) (l : List Int) (hl : l.length ≤ 1000000) (hk : l.length < k) : spec_l09Inverse.f k l = some (invW l) := by
  unfold spec_l09Inverse.f
  rw [wrap_of _ (by omega) (by omega)]
  have := spec_l09Inverse_l0 l hl l.length k [] (by omega) hk (by simp)
  simpa using this
theorem invW_length (l : List Int) : (invW l).length = l.length := by simp [invW]

end Go.Proofs.Ytmgkalljgglabaa.Pure
