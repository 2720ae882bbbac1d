/- Plain lemmas on iterated sums: letter after letter and entry after entry give the same. -/
import Derived.Test.YtfbkjlgibpmpoaaPx3
import Derived.Test.YtfbkjlgibpmpoaaPx7
import Derived.Test.YtfbkjlgibpmpoaaBaseTables2
namespace Go.Proofs.Ytfbkjlgibpmpoaa.Pure
open Go.RowKit Go.Proofs.Ytfbkjlgibpmpoaa.P Go.Proofs.YtfbkjlgibpmpoaaW.PrintWords Go.Proofs.YtfbkjlgibpmpoaaW.PrintLast
set_option linter.unusedVariables false
set_option linter.unusedSimpArgs false

theorem wrap_mod (x : Int) : wrap64 x % 18446744073709551616 = x % 18446744073709551616 := by unfold wrap64; omega
theorem wrap_eq {x y : Int} (h : x % 18446744073709551616 = y % 18446744073709551616) : wrap64 x = wrap64 y := by unfold wrap64; omega
theorem wrap_step (a b c : Int) : wrap64 (wrap64 a + wrap64 (wrap64 b * c)) = wrap64 (a + b * c) := by
  apply wrap_eq
  rw [Int.add_emod, wrap_mod, wrap_mod, Int.mul_emod, wrap_mod, ← Int.mul_emod, ← Int.add_emod]
theorem wrap_step' (a b c : Int) : wrap64 (wrap64 a + wrap64 (c * wrap64 b)) = wrap64 (a + b * c) := by
  rw [Int.mul_comm c]; exact wrap_step a b c
/-- What the entries from here on add, for the first letter. -/
def stepB (w : Bool) (c : Int) (g : List (List Int) → Int) : List (List Int) → Int
  | [] => 0
  | r :: rs => stepB w c g rs + g (if w then r :: rs else rs) * rd r c
/-- The iterated sum of letters along entries. -/
def sumB (w : Bool) : List Int → List (List Int) → Int
  | [], _ => 1
  | c :: cs, rs => stepB w c (sumB w cs) rs
theorem sumB_cons (w : Bool) (c : Int) (cs : List Int) (r : List Int) (rs : List (List Int)) : sumB w (c :: cs) (r :: rs) = sumB w (c :: cs) rs + sumB w cs (if w then r :: rs else rs) * rd r c := rfl
def dot (w : Bool) (rs : List (List Int)) : List Int → List Int → Int
  | [], _ => 0
  | a :: A, [] => a
  | a :: A, c :: cs => a * sumB w (c :: cs) rs + dot w rs A cs
/-- What an entry makes of the sums behind the first one. -/
def fwd (w : Bool) (r : List Int) (p : Int) : List Int → List Int → List Int
  | c :: cs, a :: A => (a + p * rd r c) :: fwd w r (if w then a + p * rd r c else a) cs A
  | _, A => A
theorem fwd_length (w : Bool) (r : List Int) : ∀ cs p A, (fwd w r p cs A).length = A.length := by
  intro cs
  induction cs with
  | nil => intro p A; rfl
  | cons c cs ih => intro p A; cases A with
    | nil => rfl
    | cons a A => simp only [fwd, List.length_cons, ih]
theorem dot_head (w : Bool) (rs : List (List Int)) (a x : Int) (A cs : List Int) : dot w rs ((a + x) :: A) cs = dot w rs (a :: A) cs + x * sumB w cs rs := by
  cases cs with
  | nil => simp [dot, sumB]
  | cons c cs => simp only [dot, Int.add_mul]; omega
theorem dot_fwd (w : Bool) (r : List Int) (rs : List (List Int)) : ∀ cs p A, A.length = cs.length → dot w (r :: rs) (p :: A) cs = dot w rs (p :: fwd w r p cs A) cs := by
  intro cs
  induction cs with
  | nil => intro p A h; cases A with
    | nil => rfl
    | cons a A => simp at h
  | cons c cs ih =>
    intro p A h
    cases A with
    | nil => simp at h
    | cons a A =>
      have h' : A.length = cs.length := by simpa using h
      simp only [dot, fwd]
      rw [sumB_cons]
      cases w with
      | false =>
        simp only [Bool.false_eq_true, if_false]
        rw [dot_head, ih a A h', Int.mul_add, Int.mul_comm (sumB false cs rs), ← Int.mul_assoc]
        omega
      | true =>
        simp only [if_true]
        rw [← ih (a + p * rd r c) A h', dot_head, Int.mul_add, Int.mul_comm (sumB true cs (r :: rs)), ← Int.mul_assoc]
        omega
theorem dot_end (w : Bool) : ∀ cs A, A.length = cs.length + 1 → dot w [] A cs = A.getD cs.length 0 := by
  intro cs
  induction cs with
  | nil => intro A h; cases A with
    | nil => simp at h
    | cons a A => simp [dot]
  | cons c cs ih =>
    intro A h
    cases A with
    | nil => simp at h
    | cons a A =>
      have h' : A.length = cs.length + 1 := by simpa using h
      simp only [dot, ih A h', sumB, stepB, List.length_cons, List.getD_cons_succ]
      omega
theorem dot_zeros (w : Bool) (rs : List (List Int)) : ∀ cs n, dot w rs (List.replicate n 0) cs = 0 := by
  intro cs
  induction cs with
  | nil => intro n; cases n <;> simp [dot, List.replicate_succ]
  | cons c cs ih => intro n; cases n with
    | zero => simp [dot]
    | succ n => simp [dot, List.replicate_succ, ih n]
theorem dot_start (w : Bool) (rs : List (List Int)) (cs : List Int) (n : Nat) : dot w rs (1 :: List.replicate n 0) cs = sumB w cs rs := by
  cases cs with
  | nil => simp [dot, sumB]
  | cons c cs => simp [dot, dot_zeros]
/-- The letters of a word, as numbers. -/
def lets (s : ByteArray) : Nat → Nat → List Int
  | 0, _ => []
  | n + 1, i => ((bt s i - 48) % 256) :: lets s n (i + 1)
theorem lets_length (s : ByteArray) : ∀ n i, (lets s n i).length = n := by
  intro n
  induction n with
  | zero => intro i; rfl
  | succ n ih => intro i; simp [lets, ih]
theorem rd_mid (P R : List Int) (p : Int) (j : Nat) (h : P.length = j) : rd ((P ++ p :: R).map wrap64) (j : Int) = wrap64 p := by
  subst h
  simp [rd, List.getD_eq_getElem?_getD]
theorem set_mid (P R : List Int) (p q v : Int) (j : Nat) (h : P.length = j) (hv : v = wrap64 q) : ((P ++ p :: R).map wrap64).set j v = (P ++ q :: R).map wrap64 := by
  subst h hv
  simp
theorem app_mid (P R : List Int) (p q : Int) : P ++ p :: q :: R = (P ++ [p]) ++ q :: R := by simp
/-- The letters stand in the entry. -/
def fits (m : Nat) (s : ByteArray) : Prop := ∀ i : Nat, i < s.size → (bt s i - 48) % 256 < (m : Int)
theorem impl_sumAt_l1 (s : ByteArray) (w : Bool) (rows : List (List Int)) (row : List Int) (x20 x21 : Int) (hs : s.size ≤ 1000) (hf : fits row.length s) : ∀ e k j (P Q R : List Int) (p q : Int), j + e = s.size → P.length = j → Q.length = j → R.length = e →
    impl_sumAt.l1 (k + e + 1) s w ((P ++ p :: R).map wrap64) row ((Q ++ q :: R).map wrap64) rows x20 x21 (s.size : Int) (j : Int) = impl_sumAt.l0 k s w ((P ++ p :: fwd w row (if w then p else q) (lets s e j) R).map wrap64) rows x20 (wrap64 (x21 + 1)) := by
  intro e
  induction e with
  | zero =>
    intro k j P Q R p q h hP hQ hR
    obtain rfl := List.eq_nil_of_length_eq_zero hR
    simp only [impl_sumAt.l1, lets, fwd]
    rw [if_neg (by omega)]
  | succ e ih =>
    intro k j P Q R p q h hP hQ hR
    cases R with
    | nil => simp at hR
    | cons a R =>
      have hR' : R.length = e := by simpa using hR
      rw [show k + (e + 1) + 1 = (k + e + 1) + 1 from by omega, impl_sumAt.l1]
      have hx := hf j (by omega)
      rw [if_pos (by omega), if_pos (by omega), if_pos (show (j : Int) < _ from by simp; omega), wrap_nat _ (by omega)]
      have e1 := rd_mid P (a :: R) p j hP
      have e2 : rd ((P ++ p :: a :: R).map wrap64) ((j + 1 : Nat) : Int) = wrap64 a := by rw [app_mid]; exact rd_mid _ _ _ _ (by simp; omega)
      have e3 := rd_mid Q (a :: R) q j hQ
      simp only [lets, fwd]
      cases w with
      | true =>
        simp only [if_true]
        rw [if_pos (show (j : Int) < _ from by simp; omega), if_pos (by omega), if_pos (show ((j + 1 : Nat) : Int) < _ from by simp; omega), if_pos (by omega), if_pos (by omega), if_pos hx, e1, e2, wrap_step, Int.toNat_natCast, app_mid P, set_mid (P ++ [p]) R a _ _ (j + 1) (by simp; omega) rfl, app_mid Q, ih k (j + 1) (P ++ [p]) (Q ++ [q]) R _ _ (by omega) (by simp; omega) (by simp; omega) hR', app_mid P]
        rfl
      | false =>
        simp only [Bool.false_eq_true, if_false]
        rw [if_pos (by omega), if_pos (show ((j + 1 : Nat) : Int) < _ from by simp; omega), if_pos (by omega), if_pos (by omega), if_pos hx, e3, e2, wrap_step, Int.toNat_natCast, app_mid P, set_mid (P ++ [p]) R a _ _ (j + 1) (by simp; omega) rfl, app_mid Q, ih k (j + 1) (P ++ [p]) (Q ++ [q]) R _ _ (by omega) (by simp; omega) (by simp; omega) hR', app_mid P]
        rfl
theorem impl_sumAt_l0 (s : ByteArray) (w : Bool) (rows : List (List Int)) (hs : s.size ≤ 1000) (hn : rows.length ≤ 1000) (hf : ∀ r ∈ rows, fits r.length s) : ∀ d k i (A : List Int), i + d = rows.length → d * (s.size + 2) < k → A.length = s.size + 1 →
    impl_sumAt.l0 k s w (A.map wrap64) rows (rows.length : Int) (i : Int) = some (wrap64 (dot w (rows.drop i) A (lets s s.size 0))) := by
  intro d
  induction d with
  | zero =>
    intro k i A h hk hA
    obtain ⟨k, rfl⟩ : ∃ m, k = m + 1 := ⟨k - 1, by omega⟩
    simp only [impl_sumAt.l0]
    rw [if_neg (by omega), if_pos (by omega), if_pos (by simp; omega), List.drop_of_length_le (by omega), dot_end w _ A (by rw [lets_length]; exact hA), lets_length, rd_nat _ _ (by simp; omega), List.getElem_map]
    congr 2
    simp [List.getD_eq_getElem?_getD, show s.size < A.length by omega]
  | succ d ih =>
    intro k i A h hk hA
    rw [Nat.succ_mul] at hk
    obtain ⟨k, rfl⟩ : ∃ m, k = (m + s.size + 1) + 1 := ⟨k - s.size - 2, by omega⟩
    simp only [impl_sumAt.l0, slices_Clone_int64_int64.f]
    rw [if_pos (by omega), if_pos (by omega), if_pos (by omega), if_pos (show (List.map wrap64 A).length * 8 ≤ 140737488355328 from by simp; omega), Option.bind_some, rdR_nat rows i (by omega)]
    cases A with
    | nil => simp at hA
    | cons a A =>
      have hA' : A.length = s.size := by simpa using hA
      have l1 := impl_sumAt_l1 s w rows rows[i] (rows.length : Int) (i : Int) hs (hf _ (List.getElem_mem (by omega))) s.size k 0 [] [] A a a (by omega) rfl rfl hA'
      simp only [List.nil_append, ite_self, Int.natCast_zero] at l1
      have l1' : impl_sumAt.l1 (k + s.size + 1) s w ((a :: A).map wrap64) rows[i] ((a :: A).map wrap64) rows (rows.length : Int) (i : Int) (s.size : Int) 0 = _ := l1
      rw [l1', wrap_nat _ (by omega), ih k (i + 1) _ (by omega) (by omega) (by simp [fwd_length, hA']), List.drop_eq_getElem_cons (show i < rows.length by omega), dot_fwd w _ _ _ _ _ (by rw [lets_length]; exact hA')]
theorem impl_sumAt_f (k : Nat) (s : ByteArray) (w : Bool) (rows : List (List Int)) (hs : s.size ≤ 5) (hn : rows.length ≤ 12) (hf : ∀ r ∈ rows, fits r.length s) (hk : 200 ≤ k) : impl_sumAt.f k rows s w = some (wrap64 (sumB w (lets s s.size 0) rows)) := by
  unfold impl_sumAt.f
  rw [wrap_nat _ (by omega), if_pos (by omega), if_pos (by omega), Option.bind_some, if_pos (by simp), Int.toNat_natCast, List.replicate_succ]
  have h0 : (((0 : Int) :: List.replicate s.size 0).set (0 : Int).toNat 1) = (1 :: List.replicate s.size 0 : List Int).map wrap64 := by
    simp [List.map_replicate, wrap64]
  have hm : rows.length * (s.size + 2) ≤ 12 * 7 := Nat.mul_le_mul hn (by omega)
  have := impl_sumAt_l0 s w rows (by omega) (by omega) hf rows.length k 0 (1 :: List.replicate s.size 0) (by omega) (by omega) (by simp)
  rw [h0]
  simpa [dot_start] using this

/-- The sums of the reference, from letter j on, at all places. -/
def okRow (w : Bool) (rows : List (List Int)) (cs : List Int) (x : List Int) (i : Nat) : Prop := x.length = rows.length + 1 ∧ ∀ q : Nat, i ≤ q → q ≤ rows.length → rd x (q : Int) = wrap64 (sumB w cs (rows.drop q))
theorem rd_set (x : List Int) (i q : Nat) (v : Int) (h : i < x.length) : rd (x.set i v) (q : Int) = if q = i then v else rd x (q : Int) := by
  simp only [rd, Int.toNat_natCast, List.getD_eq_getElem?_getD, List.getElem?_set]
  by_cases e : i = q
  · subst e; simp [h]
  · simp [e, Ne.symm e]
theorem spec_l10Sum_l2 (s : ByteArray) (w : Bool) (rows : List (List Int)) (hs : s.size ≤ 1000) (hn : rows.length ≤ 1000) (hf : ∀ r ∈ rows, fits r.length s) (j : Nat) (hj : j < s.size) (cs : List Int) (x8 : List Int) (h8 : okRow w rows cs x8 0) : ∀ i k (x11 : List Int), i ≤ rows.length → okRow w rows (((bt s j - 48) % 256) :: cs) x11 i →
    ∃ x, okRow w rows (((bt s j - 48) % 256) :: cs) x 0 ∧ spec_l10Sum.l2 (k + i + 1) rows s w (rows.length : Int) x8 (j : Int) x11 ((i : Int) - 1) = spec_l10Sum.l1 k rows s w (rows.length : Int) x (wrap64 ((j : Int) - 1)) := by
  intro i
  induction i with
  | zero =>
    intro k x11 hi h
    refine ⟨x11, h, ?_⟩
    rw [show k + 0 + 1 = k + 1 from rfl, spec_l10Sum.l2, if_neg (by omega)]
  | succ i ih =>
    intro k x11 hi h
    obtain ⟨hl, hx⟩ := h
    obtain ⟨hl8, hx8⟩ := h8
    have hr := hf rows[i] (List.getElem_mem (by omega)) j hj
    have hd : rows.drop i = rows[i] :: rows.drop (i + 1) := List.drop_eq_getElem_cons (by omega)
    rw [show k + (i + 1) + 1 = (k + i + 1) + 1 from by omega, spec_l10Sum.l2, show (((i + 1 : Nat) : Int) - 1) = (i : Int) from by omega, wrap_nat _ (by omega), rdR_nat rows i (by omega), wrap_of ((i : Int) - 1) (by omega) (by omega)]
    have key : ∀ v, v = wrap64 (sumB w (((bt s j - 48) % 256) :: cs) (rows.drop i)) → ∃ x, okRow w rows (((bt s j - 48) % 256) :: cs) x 0 ∧ spec_l10Sum.l2 (k + i + 1) rows s w (rows.length : Int) x8 (j : Int) (x11.set i v) ((i : Int) - 1) = spec_l10Sum.l1 k rows s w (rows.length : Int) x (wrap64 ((j : Int) - 1)) := by
      intro v hv
      refine ih k (x11.set i v) (by omega) ⟨by simpa using hl, fun q h1 h2 => ?_⟩
      rw [rd_set _ _ _ _ (by omega)]
      by_cases e : q = i
      · rw [if_pos e, hv, e]
      · rw [if_neg e]; exact hx q (by omega) h2
    rw [if_pos (by omega), hx (i + 1) (by omega) hi]
    cases w with
    | true =>
      simp only [if_true]
      rw [if_pos (by omega), if_pos (by omega), if_pos (by omega), if_pos (by omega), if_pos (by omega), if_pos (by omega), if_pos (by omega), if_pos hr, if_pos (by omega), if_pos (by omega), hx8 i (by omega) (by omega), wrap_step', Int.toNat_natCast]
      exact key _ (by rw [hd, sumB_cons]; rfl)
    | false =>
      simp only [Bool.false_eq_true, if_false]
      rw [if_pos (by omega), if_pos (by omega), if_pos (by omega), if_pos (by omega), if_pos (by omega), if_pos (by omega), if_pos (by omega), if_pos hr, if_pos (by omega), if_pos (by omega), hx8 (i + 1) (by omega) (by omega), wrap_step', Int.toNat_natCast]
      exact key _ (by rw [hd, sumB_cons]; rfl)
theorem lets_at (s : ByteArray) : ∀ n i, lets s (n + 1) i = ((bt s i - 48) % 256) :: lets s n (i + 1) := fun _ _ => rfl
theorem spec_l10Sum_l1 (s : ByteArray) (w : Bool) (rows : List (List Int)) (hs : s.size ≤ 1000) (hn : rows.length ≤ 1000) (hf : ∀ r ∈ rows, fits r.length s) : ∀ j k (x8 : List Int), j ≤ s.size → j * (rows.length + 2) < k → okRow w rows (lets s (s.size - j) j) x8 0 →
    spec_l10Sum.l1 k rows s w (rows.length : Int) x8 ((j : Int) - 1) = some (wrap64 (sumB w (lets s s.size 0) rows)) := by
  intro j
  induction j with
  | zero =>
    intro k x8 hj hk h
    obtain ⟨k, rfl⟩ : ∃ m, k = m + 1 := ⟨k - 1, by omega⟩
    obtain ⟨hl, hx⟩ := h
    have h0 := hx 0 (Nat.le_refl _) (Nat.zero_le _)
    rw [spec_l10Sum.l1, if_neg (by omega), if_pos (by omega)]
    simpa using h0
  | succ j ih =>
    intro k x8 hj hk h
    rw [Nat.succ_mul] at hk
    obtain ⟨k, rfl⟩ : ∃ m, k = (m + rows.length + 1) + 1 := ⟨k - rows.length - 2, by omega⟩
    rw [spec_l10Sum.l1, show (((j + 1 : Nat) : Int) - 1) = (j : Int) from by omega, wrap_nat _ (by omega), if_pos (by omega), if_pos (by omega), if_pos (by omega), wrap_of ((rows.length : Int) - 1) (by omega) (by omega), Int.toNat_natCast]
    have hc : ((bt s j - 48) % 256) :: lets s (s.size - (j + 1)) (j + 1) = lets s (s.size - j) j := by rw [← lets_at, show s.size - (j + 1) + 1 = s.size - j from by omega]
    obtain ⟨x, hx, he⟩ := spec_l10Sum_l2 s w rows hs hn hf j (by omega) _ x8 h rows.length k (List.replicate (rows.length + 1) 0) (Nat.le_refl _) ⟨by simp, fun q h1 h2 => by
      obtain rfl : q = rows.length := by omega
      rw [List.drop_length]
      simp [rd, sumB, stepB, wrap64, List.getD_eq_getElem?_getD]⟩
    rw [he, wrap_of ((j : Int) - 1) (by omega) (by omega), ih k x (by omega) (by omega) (by rw [← hc]; exact hx)]
theorem spec_l10Sum_l0 (s : ByteArray) (w : Bool) (rows : List (List Int)) (hs : s.size ≤ 1000) (hn : rows.length ≤ 1000) (hf : ∀ r ∈ rows, fits r.length s) : ∀ d k i (x8 : List Int), i + d = rows.length + 1 → d + s.size * (rows.length + 2) + 1 < k → x8.length = rows.length + 1 → (∀ q : Nat, q < i → rd x8 (q : Int) = 1) →
    spec_l10Sum.l0 k rows s w (rows.length : Int) x8 (i : Int) = some (wrap64 (sumB w (lets s s.size 0) rows)) := by
  intro d
  induction d with
  | zero =>
    intro k i x8 h hk hl hx
    obtain ⟨k, rfl⟩ : ∃ m, k = m + 1 := ⟨k - 1, by omega⟩
    rw [spec_l10Sum.l0, if_neg (by omega), wrap_of _ (by omega) (by omega)]
    refine spec_l10Sum_l1 s w rows hs hn hf s.size k x8 (Nat.le_refl _) (by omega) ⟨hl, fun q _ h2 => ?_⟩
    rw [Nat.sub_self, hx q (by omega)]
    simp [lets, sumB, wrap64]
  | succ d ih =>
    intro k i x8 h hk hl hx
    obtain ⟨k, rfl⟩ : ∃ m, k = m + 1 := ⟨k - 1, by omega⟩
    rw [spec_l10Sum.l0, if_pos (by omega), if_pos (by omega), if_pos (by omega), wrap_nat _ (by omega), Int.toNat_natCast]
    refine ih k (i + 1) _ (by omega) (by omega) (by simpa using hl) (fun q hq => ?_)
    rw [rd_set _ _ _ _ (by omega)]
    by_cases e : q = i
    · rw [if_pos e]
    · rw [if_neg e]; exact hx q (by omega)
theorem spec_l10Sum_f (k : Nat) (s : ByteArray) (w : Bool) (rows : List (List Int)) (hs : s.size ≤ 5) (hn : rows.length ≤ 12) (hf : ∀ r ∈ rows, fits r.length s) (hk : 200 ≤ k) : spec_l10Sum.f k rows s w = some (wrap64 (sumB w (lets s s.size 0) rows)) := by
  unfold spec_l10Sum.f
  have hm : s.size * (rows.length + 2) ≤ 5 * 14 := Nat.mul_le_mul hs (by omega)
  rw [wrap_nat _ (by omega), if_pos (by omega), if_pos (by omega), Int.toNat_natCast]
  exact spec_l10Sum_l0 s w rows (by omega) (by omega) hf (rows.length + 1) k 0 _ (by omega) (by omega) (by simp) (fun q h => absurd h (Nat.not_lt_zero _))

end Go.Proofs.Ytfbkjlgibpmpoaa.Pure
