/- Plain lemmas on power sums: what the reference and the program compute. -/
import Derived.Test.YtbpipmkgclkhgaaPx5
import Derived.Test.YtbpipmkgclkhgaaPx3
import Derived.Test.YtbpipmkgclkhgaaPx2
import Derived.Test.YtbpipmkgclkhgaaPx4
namespace Go.Proofs.Ytbpipmkgclkhgaa.Pure
open Go.RowKit Go.Proofs.Ytbpipmkgclkhgaa.P Go.Proofs.YtbpipmkgclkhgaaW.PrintWords Go.Proofs.YtbpipmkgclkhgaaW.PrintLast
set_option linter.unusedVariables false
set_option linter.unusedSimpArgs false

theorem wrap_of (i : Int) (h0 : -9223372036854775808 ≤ i) (h1 : i ≤ 9223372036854775807) : wrap64 i = i := by unfold wrap64; omega
theorem wrap_nat (i : Nat) (h : i < 4611686018427387904) : wrap64 ((i : Int) + 1) = ((i + 1 : Nat) : Int) := by unfold wrap64; omega
theorem rd_nat (l : List Int) (i : Nat) (h : i < l.length) : rd l (i : Int) = l[i] := by simp [rd, h]
theorem take_set (x : List Int) (i : Nat) (a : Int) (h : i < x.length) : (x.set i a).take (i + 1) = x.take i ++ [a] := by
  rw [List.take_succ_eq_append_getElem (by simpa using h)]
  simp [List.take_set_of_le]
theorem eqInt64S_l0 (l : List Int) (hl : l.length ≤ 4000000) : ∀ d k i, i + d = l.length → d < k → laws_eqInt64S.l0 k l l (i : Int) = some true := by
  intro d
  induction d with
  | zero =>
    intro k i h hk
    obtain ⟨k, rfl⟩ : ∃ m, k = m + 1 := ⟨k - 1, by omega⟩
    simp only [laws_eqInt64S.l0]
    rw [if_neg (by omega)]
  | succ d ih =>
    intro k i h hk
    obtain ⟨k, rfl⟩ : ∃ m, k = m + 1 := ⟨k - 1, by omega⟩
    simp only [laws_eqInt64S.l0]
    rw [if_pos (by omega), if_pos (by omega), if_pos (by omega), if_pos trivial, wrap_nat _ (by omega), ih k (i + 1) (by omega) (by omega)]
theorem eqInt64S_f (k : Nat) (l : List Int) (hl : l.length ≤ 4000000) (hk : l.length < k) : laws_eqInt64S.f k l l = some true := by
  unfold laws_eqInt64S.f
  rw [if_pos rfl]
  exact eqInt64S_l0 l hl l.length k 0 (by omega) hk
theorem toInt64S_l0 (l : List Int) (hl : l.length ≤ 1048576) : ∀ d k i (x : List Int), i + d = l.length → d < k → x.length = l.length → laws_toInt64S.l0 k l x (i : Int) = some (x.take i ++ l.drop i) := by
  intro d
  induction d with
  | zero =>
    intro k i x h hk hx
    obtain ⟨k, rfl⟩ : ∃ m, k = m + 1 := ⟨k - 1, by omega⟩
    simp only [laws_toInt64S.l0]
    rw [if_neg (by omega), List.drop_of_length_le (by omega), List.take_of_length_le (by omega), List.append_nil]
  | succ d ih =>
    intro k i x h hk hx
    obtain ⟨k, rfl⟩ : ∃ m, k = m + 1 := ⟨k - 1, by omega⟩
    simp only [laws_toInt64S.l0]
    rw [if_pos (by omega), if_pos (by omega), if_pos (by omega), wrap_nat _ (by omega), ih k (i + 1) _ (by omega) (by omega) (by simpa using hx), rd_nat l i (by omega), Int.toNat_natCast, take_set x i _ (by omega), List.append_assoc, List.drop_eq_getElem_cons (show i < l.length by omega)]
    rfl
theorem toInt64S_f (k : Nat) (l : List Int) (hl : l.length ≤ 1048576) (hk : l.length < k) : laws_toInt64S.f k l = some l := by
  unfold laws_toInt64S.f
  rw [if_pos (by omega), if_pos (by omega)]
  have := toInt64S_l0 l hl l.length k 0 (List.replicate ((l.length : Int)).toNat 0) (by omega) hk (by simp)
  simpa using this
theorem spec_l01In_f' (n lo hi : Int) : spec_l01In.f n lo hi = some (decide (lo ≤ n) && decide (n ≤ hi)) := by
  unfold spec_l01In.f
  by_cases h : n ≥ lo
  · rw [if_pos h]; simp [show lo ≤ n from h]
  · rw [if_neg h]; simp [show ¬ lo ≤ n from h]
def allSmall (l : List Int) : Bool := !(l.any fun x => !(Hand.upToB x 100))
theorem upToB_100 (x : Int) : Hand.upToB x 100 = (decide (-100 ≤ x) && decide (x ≤ 100)) := by
  unfold Hand.upToB
  rw [show wrap64 (-100) = -100 from by unfold wrap64; omega]
theorem allSmall_cons (a : Int) (l : List Int) : allSmall (a :: l) = ((decide (-100 ≤ a) && decide (a ≤ 100)) && allSmall l) := by
  unfold allSmall
  rw [List.any_cons, upToB_100]
  simp
def areNums (low : Int) (l : List Int) : Bool := allSmall l && (decide (low ≤ (l.length : Int)) && decide ((l.length : Int) ≤ 12))
theorem spec_l10List_l0 (low : Int) (l : List Int) (hl : l.length ≤ 4000000) : ∀ d k i, i + d = l.length → d < k → spec_l10List.l0 k l low (i : Int) = some (allSmall (l.drop i) && (decide (low ≤ (l.length : Int)) && decide ((l.length : Int) ≤ 12))) := by
  intro d
  induction d with
  | zero =>
    intro k i h hk
    obtain ⟨k, rfl⟩ : ∃ m, k = m + 1 := ⟨k - 1, by omega⟩
    simp only [spec_l10List.l0]
    rw [if_neg (by omega), List.drop_of_length_le (by omega)]
    by_cases h0 : (l.length : Int) ≥ low
    · rw [if_pos h0]; simp [allSmall, show low ≤ (l.length : Int) from h0]
    · rw [if_neg h0]; simp [allSmall, show ¬ low ≤ (l.length : Int) from h0]
  | succ d ih =>
    intro k i h hk
    obtain ⟨k, rfl⟩ : ∃ m, k = m + 1 := ⟨k - 1, by omega⟩
    simp only [spec_l10List.l0]
    rw [if_pos (by omega), if_pos (by omega), rd_nat l i (by omega), spec_l01In_f', Option.bind_some, List.drop_eq_getElem_cons (show i < l.length by omega), wrap_nat _ (by omega)]
    by_cases hs : (decide (-100 ≤ l[i]) && decide (l[i] ≤ 100)) = true
    · rw [if_pos hs, ih k (i + 1) (by omega) (by omega)]
      rw [allSmall_cons, hs, Bool.true_and]
    · rw [if_neg hs]
      rw [allSmall_cons, Bool.eq_false_iff.mpr hs]; rfl
theorem spec_l10List_f (k : Nat) (low : Int) (l : List Int) (hl : l.length ≤ 4000000) (hk : l.length < k) : spec_l10List.f k l low = some (areNums low l) := by
  unfold spec_l10List.f areNums
  have := spec_l10List_l0 low l hl l.length k 0 (by omega) hk
  simpa using this
theorem impl_areNumbers_f (l : List Int) : impl_areNumbers.f l = some (areNums 0 l) := by
  unfold impl_areNumbers.f areNums impl_allUpTo.f
  by_cases h : (l.length : Int) ≤ 12
  · rw [if_pos h]; simp [allSmall, h]
  · rw [if_neg h]; simp [h]
theorem areNums_length {low : Int} {l : List Int} (h : areNums low l = true) : l.length ≤ 12 := by
  unfold areNums at h
  simp only [Bool.and_eq_true, decide_eq_true_eq] at h
  omega
theorem areNums_at {low : Int} {l : List Int} (h : areNums low l = true) (i : Nat) (hi : i < l.length) : -100 ≤ rd l (i : Int) ∧ rd l (i : Int) ≤ 100 := by
  unfold areNums allSmall at h
  simp only [Bool.and_eq_true, Bool.not_eq_true', List.any_eq_false] at h
  have := h.1 l[i] (List.getElem_mem _)
  rw [upToB_100] at this
  rw [rd_nat l i hi]
  simp at this
  exact this
def allPart (l : List Int) : Bool := !(l.any fun x => !decide (1 ≤ x) || !decide (x ≤ 5))
theorem allPart_cons (a : Int) (l : List Int) : allPart (a :: l) = ((decide (1 ≤ a) && decide (a ≤ 5)) && allPart l) := by
  unfold allPart
  rw [List.any_cons]
  simp
theorem spec_l10Parts_l0 (m : Int) (l : List Int) (hl : l.length ≤ 4000000) : ∀ d k i, i + d = l.length → d < k → spec_l10Parts.l0 k l m (i : Int) = some (allPart (l.drop i) && decide ((l.length : Int) ≤ m)) := by
  intro d
  induction d with
  | zero =>
    intro k i h hk
    obtain ⟨k, rfl⟩ : ∃ m, k = m + 1 := ⟨k - 1, by omega⟩
    simp only [spec_l10Parts.l0]
    rw [if_neg (by omega), List.drop_of_length_le (by omega)]
    simp [allPart]
  | succ d ih =>
    intro k i h hk
    obtain ⟨k, rfl⟩ : ∃ m, k = m + 1 := ⟨k - 1, by omega⟩
    simp only [spec_l10Parts.l0]
    rw [if_pos (by omega), if_pos (by omega), rd_nat l i (by omega), spec_l01In_f', Option.bind_some, List.drop_eq_getElem_cons (show i < l.length by omega), wrap_nat _ (by omega)]
    by_cases hs : (decide (1 ≤ l[i]) && decide (l[i] ≤ 5)) = true
    · rw [if_pos hs, ih k (i + 1) (by omega) (by omega)]
      rw [allPart_cons, hs, Bool.true_and]
    · rw [if_neg hs]
      rw [allPart_cons, Bool.eq_false_iff.mpr hs]; rfl
theorem spec_l10Parts_f (k : Nat) (l : List Int) (hl : l.length ≤ 4000000) (hk : l.length < k) : spec_l10Parts.f k l 6 = some (impl_PowerSum_isParts l 6) := by
  unfold spec_l10Parts.f impl_PowerSum_isParts
  have := spec_l10Parts_l0 6 l hl l.length k 0 (by omega) hk
  rw [List.drop_zero] at this
  rw [show (0 : Int) = ((0 : Nat) : Int) from rfl, this, Bool.and_comm]
  congr 2
  rw [decide_eq_decide]
  omega
theorem isParts_at {l : List Int} (h : impl_PowerSum_isParts l 6 = true) (i : Nat) (hi : i < l.length) : 1 ≤ rd l (i : Int) ∧ rd l (i : Int) ≤ 5 := by
  unfold impl_PowerSum_isParts at h
  simp only [Bool.and_eq_true, Bool.not_eq_true', List.any_eq_false] at h
  have := h.2 l[i] (List.getElem_mem _)
  rw [rd_nat l i hi]
  simp at this
  omega
theorem isParts_length {l : List Int} (h : impl_PowerSum_isParts l 6 = true) : l.length ≤ 6 := by
  unfold impl_PowerSum_isParts at h
  simp only [Bool.and_eq_true, decide_eq_true_eq] at h
  exact h.1

/-- From the last place down. -/
def downO {α : Type} (g : α → Nat → Option α) : Nat → α → Option α
  | 0, f => some f
  | n + 1, f => (g f n).bind (downO g n)
theorem foldl_down {α : Type} (g : α → Nat → Option α) : ∀ n (o : Option α), (impl_PowerSum_seq n).foldl (fun o x => o.bind fun f => g f x.1) o = o.bind (downO g n)
  | 0, o => by cases o <;> simp [impl_PowerSum_seq, downO]
  | n + 1, o => by
    have h := foldl_down g n
    unfold impl_PowerSum_seq at h ⊢
    rw [List.finRange_succ_last, List.reverse_append, List.reverse_singleton, List.singleton_append, List.foldl_cons, ← List.map_reverse, List.foldl_map]
    simp only [Fin.val_last, Fin.val_castSucc]
    rw [h]
    cases o with
    | none => rfl
    | some f => rfl
theorem row_down (list b : List Int) (p : Nat) : impl_PowerSum_row list b p (impl_PowerSum_seq list.length) = downO (impl_PowerSum_step list b p) list.length (List.replicate (list.length + 1) 0) := foldl_down (impl_PowerSum_step list b p) _ _
def rowOf (list parts : List Int) (b : List Int) (j : Nat) : Option (List Int) := downO (impl_PowerSum_step list b (rd parts (j : Int)).toNat) list.length (List.replicate (list.length + 1) 0)
theorem out_down (list parts : List Int) : impl_PowerSum_out list parts (impl_PowerSum_seq parts.length) = downO (rowOf list parts) parts.length (List.replicate (list.length + 1) 1) := by
  rw [← Option.bind_some (List.replicate (list.length + 1) 1) (downO (rowOf list parts) parts.length), ← foldl_down]
  unfold impl_PowerSum_out
  congr 1
  funext o x
  congr 1
  funext b
  rw [row_down]
  unfold rowOf
  rw [rd_nat parts x.1 x.2]
/-- Entries that fit. -/
def Fits (b : List Int) : Prop := ∀ i : Nat, i < b.length → -1000000000000000 ≤ rd b (i : Int) ∧ rd b (i : Int) ≤ 1000000000000000
theorem fits_replicate (n : Nat) (v : Int) (h : v = 0 ∨ v = 1) : Fits (List.replicate n v) := by
  intro i hi
  rw [rd_nat _ _ hi, List.getElem_replicate]
  omega
theorem upToB_m (x : Int) : Hand.upToB x 1000000000000000 = (decide (-1000000000000000 ≤ x) && decide (x ≤ 1000000000000000)) := by
  unfold Hand.upToB
  rw [show wrap64 (-1000000000000000) = -1000000000000000 from by unfold wrap64; omega]
theorem fits_set {f : List Int} (hf : Fits f) (i : Nat) (v : Int) (hv : Hand.upToB v 1000000000000000 = true) : Fits (f.set i v) := by
  intro j hj
  have hj' : j < f.length := by simpa using hj
  rw [rd_nat _ _ hj, List.getElem_set]
  rw [upToB_m] at hv
  simp only [Bool.and_eq_true, decide_eq_true_eq] at hv
  split
  · exact hv
  · have := hf j hj'
    rw [rd_nat _ _ hj'] at this
    exact this
theorem step_fits {list b f f' : List Int} {p i : Nat} (hf : Fits f) (h : impl_PowerSum_step list b p f i = some f') : Fits f' ∧ f'.length = f.length := by
  unfold impl_PowerSum_step at h
  split at h
  · cases h
  · split at h
    · next hu =>
      cases h
      exact ⟨fits_set hf _ _ hu, by simp⟩
    · cases h
theorem down_fits {list b : List Int} {p : Nat} : ∀ n (f f' : List Int), Fits f → downO (impl_PowerSum_step list b p) n f = some f' → Fits f' ∧ f'.length = f.length
  | 0, f, f', hf, h => by cases h; exact ⟨hf, rfl⟩
  | n + 1, f, f', hf, h => by
    rw [downO] at h
    obtain ⟨f1, h1, h2⟩ := Option.bind_eq_some_iff.1 h
    obtain ⟨a, e⟩ := step_fits hf h1
    obtain ⟨c, e2⟩ := down_fits n f1 f' a h2
    exact ⟨c, e2.trans e⟩
theorem mul_100 {a x B : Int} (h1 : -B ≤ a) (h2 : a ≤ B) (h3 : -100 ≤ x) (h4 : x ≤ 100) : -(B * 100) ≤ a * x ∧ a * x ≤ B * 100 := by
  have h : (a * x).natAbs ≤ B.toNat * 100 := by
    rw [Int.natAbs_mul]
    exact Nat.mul_le_mul (by omega) (by omega)
  omega
theorem pwr_le {x : Int} (h1 : -100 ≤ x) (h2 : x ≤ 100) : ∀ k, k ≤ 5 → -(100 ^ k : Int) ≤ impl_PowerSum_pwr x k ∧ impl_PowerSum_pwr x k ≤ 100 ^ k
  | 0, _ => by simp [impl_PowerSum_pwr]
  | k + 1, hk => by
    obtain ⟨a, b⟩ := pwr_le h1 h2 k (by omega)
    have h := mul_100 a b h1 h2
    have hp : (100 : Int) ^ k * 100 ≤ 10000000000 := by
      rcases (show k = 0 ∨ k = 1 ∨ k = 2 ∨ k = 3 ∨ k = 4 by omega) with rfl | rfl | rfl | rfl | rfl <;> decide
    rw [Int.pow_succ]
    unfold impl_PowerSum_pwr
    rw [wrap_of _ (by omega) (by omega)]
    exact h
theorem pwr_le5 {x : Int} (h1 : -100 ≤ x) (h2 : x ≤ 100) (k : Nat) (hk : k ≤ 5) : -10000000000 ≤ impl_PowerSum_pwr x k ∧ impl_PowerSum_pwr x k ≤ 10000000000 := by
  have h := pwr_le h1 h2 k hk
  have hp : (100 : Int) ^ k ≤ 10000000000 := by
    rcases (show k = 0 ∨ k = 1 ∨ k = 2 ∨ k = 3 ∨ k = 4 ∨ k = 5 by omega) with rfl | rfl | rfl | rfl | rfl | rfl <;> decide
  omega
theorem sz_eq {x : Int} (h1 : -1000000000000000 ≤ x) (h2 : x ≤ 1000000000000000) : impl_PowerSum_sz x = if 0 ≤ x then x else -x := by
  unfold impl_PowerSum_sz
  rw [wrap_of _ (by omega) (by omega)]
  unfold mx
  split <;> split <;> omega
theorem bad_eq {p b : Int} (hp : 0 ≤ p) (hb : 0 ≤ b) : (decide (b > 0) && decide (p > 1000000000000000 / b)) = (decide (p ≠ 0) && decide (b > 1000000000000000 / p)) := by
  rw [Bool.eq_iff_iff]
  simp only [Bool.and_eq_true, decide_eq_true_eq, gt_iff_lt]
  by_cases h0 : p = 0
  · subst h0
    constructor
    · rintro ⟨h1, h2⟩
      have := Int.ediv_nonneg (show (0 : Int) ≤ 1000000000000000 by decide) hb
      omega
    · rintro ⟨h1, _⟩; exact absurd rfl h1
  · by_cases h1 : b = 0
    · subst h1
      constructor
      · rintro ⟨h1, h2⟩; omega
      · rintro ⟨_, h2⟩
        have := Int.ediv_nonneg (show (0 : Int) ≤ 1000000000000000 by decide) hp
        omega
    · have a : 0 < p := by omega
      have c : 0 < b := by omega
      rw [Int.ediv_lt_iff_lt_mul c, Int.ediv_lt_iff_lt_mul a, Int.mul_comm]
      exact ⟨fun h => ⟨h0, h.2⟩, fun h => ⟨c, h.2⟩⟩
theorem val_comm (p b f : Int) : wrap64 (f + wrap64 (p * b)) = impl_PowerSum_val p b f := by
  unfold impl_PowerSum_val
  rw [Int.add_comm]
theorem told_eq (v : Int) : spec_l10Told.f v = some (if Hand.upToB v 1000000000000000 = true then (v, 0) else (0, 3)) := by
  unfold spec_l10Told.f
  rw [spec_l01In_f', Option.bind_some, upToB_m]
  split <;> rfl
theorem mx_ne {P : Int} (h1 : -10000000000 ≤ P) (h2 : P ≤ 10000000000) (h0 : ¬ P = 0) : ¬ mx P (wrap64 (-P)) = 0 := by
  have := sz_eq (x := P) (by omega) (by omega)
  unfold impl_PowerSum_sz at this
  rw [this]
  split <;> omega
theorem l3_facts {n i j m bl fl : Nat} (hlen : n ≤ 12) (hi : i < n) (hj : j < m) (hb : bl = n + 1) (hf : fl = n + 1) :
    wrap64 ((i : Int) + 1) = (i : Int) + 1 ∧ wrap64 ((i : Int) - 1) = (i : Int) - 1 ∧ (0 : Int) ≤ (i : Int) + 1 ∧ (i : Int) + 1 < (fl : Int) ∧ (i : Int) + 1 < (bl : Int) ∧ (i : Int) < (fl : Int) ∧ (0 : Int) ≤ (j : Int) ∧ (j : Int) < (m : Int) ∧ (0 : Int) ≤ (i : Int) :=
  ⟨wrap_of _ (by omega) (by omega), wrap_of _ (by omega) (by omega), by omega, by omega, by omega, by omega, by omega, by omega, by omega⟩
/-- The reference's test. -/
def specBad (pw b1 : Int) : Bool := if pw = 0 then false else decide (mx b1 (wrap64 (-b1)) > wrap64 (1000000000000000 / mx pw (wrap64 (-pw))))
theorem specBad_eq {pw b1 : Int} (h1 : -10000000000 ≤ pw) (h2 : pw ≤ 10000000000) (h3 : -1000000000000000 ≤ b1) (h4 : b1 ≤ 1000000000000000) : specBad pw b1 = impl_PowerSum_bad pw b1 := by
  unfold specBad impl_PowerSum_bad
  have e1 := sz_eq (x := pw) (by omega) (by omega)
  have e2 := sz_eq h3 h4
  have hP : 0 ≤ impl_PowerSum_sz pw := by rw [e1]; split <;> omega
  have hB : 0 ≤ impl_PowerSum_sz b1 := by rw [e2]; split <;> omega
  have hz : impl_PowerSum_sz pw ≠ 0 ↔ pw ≠ 0 := by rw [e1]; split <;> omega
  rw [bad_eq hP hB]
  by_cases h0 : pw = 0
  · rw [if_pos h0, decide_eq_false (by rw [hz]; exact fun h => h h0), Bool.false_and]
  · rw [if_neg h0, decide_eq_true (hz.2 h0), Bool.true_and]
    have q1 := Int.ediv_nonneg (show (0 : Int) ≤ 1000000000000000 by decide) hP
    have q2 := Int.ediv_le_self (a := 1000000000000000) (impl_PowerSum_sz pw) (by decide)
    rw [show mx b1 (wrap64 (-b1)) = impl_PowerSum_sz b1 from rfl, show mx pw (wrap64 (-pw)) = impl_PowerSum_sz pw from rfl, wrap_of _ (by omega) (by omega)]

section
variable (list parts : List Int) (hn : areNums 0 list = true) (hp : impl_PowerSum_isParts parts 6 = true)
/-- What is told at the end. -/
def tell : Option (List Int) → Int × Int
  | none => (0, 3)
  | some b => (rd b 0, 0)
include hn hp
set_option maxHeartbeats 2000000 in
theorem spec_l3z (b f : List Int) (j i : Nat) (hj : j < parts.length) (hi : i < list.length) (hb : b.length = list.length + 1) (hf : f.length = list.length + 1) (r : Int × Int) (P bv fv V qq pj : Int) (hP1 : -10000000000 ≤ P) (hP2 : P ≤ 10000000000)
    (hbv : rd b ((i : Int) + 1) = bv) (hfv : rd f ((i : Int) + 1) = fv) (hpj : rd parts (j : Int) = pj) (hq : ¬ qq < pj) (hB1 : -1000000000000000 ≤ bv) (hB2 : bv ≤ 1000000000000000) (hV : impl_PowerSum_val P bv fv = V)
    (h : if impl_PowerSum_bad P bv = true then r = (0, 3) else if Hand.upToB V 1000000000000000 = true then Ev (fun k => spec_PowerSum.l2 k list parts (list.length : Int) b (j : Int) (f.set i V) ((i : Int) - 1)) r else r = (0, 3)) :
    Ev (fun k => spec_PowerSum.l3 k list parts (list.length : Int) b (j : Int) f (i : Int) P qq) r := by
  have hlen := areNums_length hn
  have hpl := isParts_length hp
  have hbad := specBad_eq hP1 hP2 hB1 hB2
  obtain ⟨w1, w2, i1, i2, i3, i4, i5, i6, i7⟩ := l3_facts hlen hi hj hb hf
  have hv : wrap64 (fv + wrap64 (P * bv)) = V := (val_comm _ _ _).trans hV
  have ht := told_eq V
  have key : Ev (fun k => spec_PowerSum.j5 k list parts (list.length : Int) b (j : Int) f (i : Int) P (impl_PowerSum_bad P bv)) r := by
    cases hB : impl_PowerSum_bad P bv with
    | true =>
      rw [hB, if_pos rfl] at h
      rw [h]
      refine Ev.step (f := fun _ => some (0, 3)) (fun k => ?_) (Ev.now _)
      simp only [spec_PowerSum.j5]
      rw [if_pos trivial]
    | false =>
      rw [hB, if_neg (by decide)] at h
      cases hu : Hand.upToB V 1000000000000000 with
      | true =>
        rw [hu, if_pos rfl] at h
        refine Ev.step (fun k => ?_) h
        simp only [spec_PowerSum.j5]
        rw [if_neg (by decide), w1, if_pos i1, if_pos i2, if_pos i3, hbv, hfv, hv, ht, hu, if_pos rfl, Option.bind_some]
        simp only [if_true]
        rw [if_pos i7, if_pos i4, w2, Int.toNat_natCast]
      | false =>
        rw [hu, if_neg (by decide)] at h
        rw [h]
        refine Ev.step (f := fun _ => some (0, 3)) (fun k => ?_) (Ev.now _)
        simp only [spec_PowerSum.j5]
        rw [if_neg (by decide), w1, if_pos i1, if_pos i2, if_pos i3, hbv, hfv, hv, ht, hu, if_neg (by decide), Option.bind_some]
        simp
  refine Ev.step (fun k => ?_) key
  simp only [spec_PowerSum.l3]
  rw [if_pos i5, if_pos i6, hpj, if_neg hq, w1, if_pos i1, if_pos i3, ← hbad, hbv]
  unfold specBad
  by_cases h0 : P = 0
  · rw [if_pos h0, if_pos h0]
  · rw [if_neg h0, if_neg h0, if_neg]
    exact mx_ne hP1 hP2 h0
theorem spec_l3 (b f : List Int) (j i : Nat) (hj : j < parts.length) (hi : i < list.length) (hb : b.length = list.length + 1) (hf : f.length = list.length + 1) (hF : Fits b) (r : Int × Int)
    (h : match impl_PowerSum_step list b (rd parts (j : Int)).toNat f i with
      | none => r = (0, 3)
      | some f' => Ev (fun k => spec_PowerSum.l2 k list parts (list.length : Int) b (j : Int) f' ((i : Int) - 1)) r) :
    ∀ d q, q + d = (rd parts (j : Int)).toNat → Ev (fun k => spec_PowerSum.l3 k list parts (list.length : Int) b (j : Int) f (i : Int) (impl_PowerSum_pwr (rd list (i : Int)) q) (q : Int)) r := by
  have hlen := areNums_length hn
  have hx := areNums_at hn i hi
  have hpj := isParts_at hp j hj
  generalize hpv : rd parts (j : Int) = pj at hpj h ⊢
  generalize hxv : rd list (i : Int) = xv at hx
  intro d
  induction d with
  | zero =>
    intro q hq
    have hbb := hF (i + 1) (by omega)
    rw [show ((i + 1 : Nat) : Int) = (i : Int) + 1 by omega] at hbb
    have hpw := pwr_le5 hx.1 hx.2 q (by omega)
    refine spec_l3z list parts hn hp b f j i hj hi hb hf r _ _ _ _ _ pj hpw.1 hpw.2 rfl rfl hpv (by omega) hbb.1 hbb.2 rfl ?_
    unfold impl_PowerSum_step at h
    rw [← hq, Nat.add_zero, hxv] at h
    split
    · next hB => rw [if_pos hB] at h; exact h
    · next hB =>
      rw [if_neg hB] at h
      split
      · next hu => rw [if_pos hu] at h; exact h
      · next hu => rw [if_neg hu] at h; exact h
  | succ d ih =>
    intro q hq
    refine Ev.step (fun k => ?_) (ih (q + 1) (by omega))
    have hql : (q : Int) < pj := by omega
    simp only [spec_PowerSum.l3]
    rw [if_pos (Int.natCast_nonneg _), if_pos (by omega), hpv, if_pos hql, if_pos (Int.natCast_nonneg _), if_pos (by omega), wrap_nat _ (by omega), hxv]
    rfl
theorem spec_l2 (b : List Int) (j : Nat) (hj : j < parts.length) (hb : b.length = list.length + 1) (hF : Fits b) (r : Int × Int) : ∀ i f, i ≤ list.length → f.length = list.length + 1 →
    (match downO (impl_PowerSum_step list b (rd parts (j : Int)).toNat) i f with
      | none => r = (0, 3)
      | some f' => Ev (fun k => spec_PowerSum.l1 k list parts (list.length : Int) f' ((j : Int) - 1)) r) →
    Ev (fun k => spec_PowerSum.l2 k list parts (list.length : Int) b (j : Int) f ((i : Int) - 1)) r := by
  have hlen := areNums_length hn
  have hpl := isParts_length hp
  intro i
  induction i with
  | zero =>
    intro f _ hf h
    rw [downO] at h
    dsimp only at h
    refine Ev.step (fun k => ?_) h
    simp only [spec_PowerSum.l2]
    rw [if_neg (by omega), wrap_of _ (by omega) (by omega)]
  | succ i ih =>
    intro f hi hf h
    refine Ev.step (fun k => ?_) (spec_l3 list parts hn hp b f j i hj (by omega) hb hf hF r ?_ (rd parts (j : Int)).toNat 0 (by omega))
    · simp only [spec_PowerSum.l2]
      rw [if_pos (by omega), show ((i + 1 : Nat) : Int) - 1 = (i : Int) by omega]
      rfl
    · rw [downO] at h
      cases hs : impl_PowerSum_step list b (rd parts (j : Int)).toNat f i with
      | none => rw [hs] at h; exact h
      | some f' =>
        rw [hs, Option.bind_some] at h
        dsimp only
        refine ih f' (by omega) ?_ h
        unfold impl_PowerSum_step at hs
        split at hs
        · cases hs
        · split at hs
          · cases hs; simpa using hf
          · cases hs
theorem spec_l1 : ∀ j b, j ≤ parts.length → b.length = list.length + 1 → Fits b → Ev (fun k => spec_PowerSum.l1 k list parts (list.length : Int) b ((j : Int) - 1)) (tell (downO (rowOf list parts) j b)) := by
  have hlen := areNums_length hn
  have hpl := isParts_length hp
  intro j
  induction j with
  | zero =>
    intro b _ hb hF
    refine Ev.step (f := fun _ => some (rd b 0, 0)) (fun k => ?_) (Ev.now _)
    simp only [spec_PowerSum.l1]
    rw [if_neg (by omega), if_pos (by omega)]
  | succ j ih =>
    intro b hj hb hF
    have e1 : wrap64 ((list.length : Int) + 1) = (list.length : Int) + 1 := wrap_of _ (by omega) (by omega)
    have e2 : wrap64 ((list.length : Int) - 1) = (list.length : Int) - 1 := wrap_of _ (by omega) (by omega)
    refine Ev.step (fun k => ?_) (spec_l2 list parts hn hp b j (by omega) hb hF _ list.length (List.replicate (list.length + 1) 0) (Nat.le_refl _) (by simp) ?_)
    · simp only [spec_PowerSum.l1]
      rw [if_pos (by omega), e1, if_pos (by omega), if_pos (by omega), e2, show ((j + 1 : Nat) : Int) - 1 = (j : Int) by omega, show ((list.length : Int) + 1).toNat = list.length + 1 by omega]
    · rw [downO]
      cases hr : rowOf list parts b j with
      | none =>
        unfold rowOf at hr
        rw [hr]
        rfl
      | some f' =>
        rw [Option.bind_some]
        have hr' := hr
        unfold rowOf at hr
        rw [hr]
        dsimp only
        have hx := down_fits _ _ _ (fits_replicate _ _ (.inl rfl)) hr
        exact ih f' (by omega) (by rw [hx.2]; simp) hx.1
theorem spec_l0 : ∀ d m x, m + d = list.length + 1 → x = List.replicate m 1 ++ List.replicate d 0 → Ev (fun k => spec_PowerSum.l0 k list parts (list.length : Int) x (m : Int)) (impl_PowerSum_res list parts) := by
  have hlen := areNums_length hn
  have hpl := isParts_length hp
  intro d
  induction d with
  | zero =>
    intro m x hm hx
    have h := spec_l1 list parts hn hp parts.length (List.replicate (list.length + 1) 1) (Nat.le_refl _) (by simp) (fits_replicate _ _ (.inr rfl))
    rw [← out_down] at h
    have e : tell (impl_PowerSum_out list parts (impl_PowerSum_seq parts.length)) = impl_PowerSum_res list parts := by
      unfold impl_PowerSum_res
      cases impl_PowerSum_out list parts (impl_PowerSum_seq parts.length) <;> rfl
    rw [e] at h
    refine Ev.step (fun k => ?_) h
    simp only [spec_PowerSum.l0]
    rw [if_neg (by omega), wrap_of _ (by omega) (by omega), hx, show m = list.length + 1 by omega, List.replicate_zero, List.append_nil]
  | succ d ih =>
    intro m x hm hx
    refine Ev.step (fun k => ?_) (ih (m + 1) (x.set m 1) (by omega) ?_)
    · simp only [spec_PowerSum.l0]
      rw [if_pos (by omega), if_pos (by omega), if_pos (by rw [hx]; simp; omega), wrap_nat _ (by omega), Int.toNat_natCast]
    · subst hx
      rw [List.set_append_right _ _ (by simp), List.length_replicate, Nat.sub_self, List.replicate_succ, List.set_cons_zero, List.replicate_succ', List.append_assoc]
      rfl
end
theorem spec_PowerSum_f (list parts : List Int) (h1 : list.length ≤ 4000000) (h2 : parts.length ≤ 4000000) (r : Int × Int) (h : impl_PowerSum.f list parts = some r) : Ev (fun k => spec_PowerSum.f k list parts) r := by
  unfold impl_PowerSum.f at h
  rw [impl_areNumbers_f, Option.bind_some] at h
  have a1 : Ev (fun k => spec_l10List.f k list 0) (areNums 0 list) := ⟨list.length + 1, fun k hk => spec_l10List_f k 0 list h1 (by omega)⟩
  have a2 : Ev (fun k => spec_l10Parts.f k parts 6) (impl_PowerSum_isParts parts 6) := ⟨parts.length + 1, fun k hk => spec_l10Parts_f k parts h2 (by omega)⟩
  unfold spec_PowerSum.f
  refine Ev.bind a1 ?_
  cases hn : areNums 0 list with
  | false =>
    rw [hn, if_neg (by decide)] at h
    cases h
    refine Ev.congr (f := fun k => spec_PowerSum.j0 k list parts true) (fun k => by rw [if_neg (by decide)]) ?_
    refine Ev.step (f := fun _ => some (0, 2)) (fun k => ?_) (Ev.now _)
    simp only [spec_PowerSum.j0, if_true]
  | true =>
    rw [hn, if_pos rfl] at h
    refine Ev.congr (f := fun k => (spec_l10Parts.f k parts 6).bind fun t => spec_PowerSum.j0 k list parts (!t)) (fun k => by rw [if_pos rfl]) ?_
    refine Ev.bind a2 ?_
    have hlen := areNums_length hn
    cases hp : impl_PowerSum_isParts parts 6 with
    | false =>
      rw [hp, if_neg (by decide)] at h
      cases h
      refine Ev.step (f := fun _ => some (0, 2)) (fun k => ?_) (Ev.now _)
      simp only [spec_PowerSum.j0, Bool.not_false, if_true]
    | true =>
      rw [hp, if_pos rfl] at h
      cases h
      refine Ev.step (fun k => ?_) (spec_l0 list parts hn hp (list.length + 1) 0 (List.replicate (list.length + 1) 0) (by omega) (by simp))
      simp only [spec_PowerSum.j0]
      rw [if_neg (by decide), wrap_of _ (by omega) (by omega), if_pos (by omega), if_pos (by omega), show ((list.length : Int) + 1).toNat = list.length + 1 by omega]
      rfl
end Go.Proofs.Ytbpipmkgclkhgaa.Pure
