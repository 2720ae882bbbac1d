/- Plain lemmas on iterated sums: letter after letter and entry after entry give the same. -/
import Derived.Test.YtbpipmkgclkhgaaPx9
import Derived.Test.YtbpipmkgclkhgaaBaseTables
namespace Go.Proofs.Ytbpipmkgclkhgaa.Pure
open Go.RowKit Go.Proofs.Ytbpipmkgclkhgaa.P Go.Proofs.YtbpipmkgclkhgaaW.PrintWords Go.Proofs.YtbpipmkgclkhgaaW.PrintLast
set_option linter.unusedVariables false
set_option linter.unusedSimpArgs false

theorem wrap_mod (x : Int) : wrap64 x % 18446744073709551616 = x % 18446744073709551616 := by unfold wrap64; omega
theorem wrap_eq {x y : Int} (h : x % 18446744073709551616 = y % 18446744073709551616) : wrap64 x = wrap64 y := by unfold wrap64; omega
theorem wrap_step (a b c : Int) : wrap64 (wrap64 a + wrap64 (wrap64 b * c)) = wrap64 (a + b * c) := by
  apply wrap_eq
  rw [Int.add_emod, wrap_mod, wrap_mod, Int.mul_emod, wrap_mod, ← Int.mul_emod, ← Int.add_emod]
theorem wrap_step' (a b c : Int) : wrap64 (wrap64 a + wrap64 (c * wrap64 b)) = wrap64 (a + b * c) := by
  rw [Int.mul_comm c]; exact wrap_step a b c
/-- What the entries from here on add, for the first letter. -/
def stepB (w : Bool) (c : Int) (g : List (List Int) → Int) : List (List Int) → Int
  | [] => 0
  | r :: rs => stepB w c g rs + g (if w then r :: rs else rs) * rd r c
/-- The iterated sum of letters along entries. -/
def sumB (w : Bool) : List Int → List (List Int) → Int
  | [], _ => 1
  | c :: cs, rs => stepB w c (sumB w cs) rs
theorem sumB_cons (w : Bool) (c : Int) (cs : List Int) (r : List Int) (rs : List (List Int)) : sumB w (c :: cs) (r :: rs) = sumB w (c :: cs) rs + sumB w cs (if w then r :: rs else rs) * rd r c := rfl
def dot (w : Bool) (rs : List (List Int)) : List Int → List Int → Int
  | [], _ => 0
  | a :: A, [] => a
  | a :: A, c :: cs => a * sumB w (c :: cs) rs + dot w rs A cs
/-- What an entry makes of the sums behind the first one. -/
def fwd (w : Bool) (r : List Int) (p : Int) : List Int → List Int → List Int
  | c :: cs, a :: A => (a + p * rd r c) :: fwd w r (if w then a + p * rd r c else a) cs A
  | _, A => A
theorem fwd_length (w : Bool) (r : List Int) : ∀ cs p A, (fwd w r p cs A).length = A.length := by
  intro cs
  induction cs with
  | nil => intro p A; rfl
  | cons c cs ih => intro p A; cases A with
    | nil => rfl
    | cons a A => simp only [fwd, List.length_cons, ih]
theorem dot_head (w : Bool) (rs : List (List Int)) (a x : Int) (A cs : List Int) : dot w rs ((a + x) :: A) cs = dot w rs (a :: A) cs + x * sumB w cs rs := by
  cases cs with
  | nil => simp [dot, sumB]
  | cons c cs => simp only [dot, Int.add_mul]; omega
theorem dot_fwd (w : Bool) (r : List Int) (rs : List (List Int)) : ∀ cs p A, A.length = cs.length → dot w (r :: rs) (p :: A) cs = dot w rs (p :: fwd w r p cs A) cs := by
  intro cs
  induction cs with
  | nil => intro p A h; cases A with
    | nil => rfl
    | cons a A => simp at h
  | cons c cs ih =>
    intro p A h
    cases A with
    | nil => simp at h
    | cons a A =>
      have h' : A.length = cs.length := by simpa using h
      simp only [dot, fwd]
      rw [sumB_cons]
      cases w with
      | false =>
        simp only [Bool.false_eq_true, if_false]
        rw [dot_head, ih a A h', Int.mul_add, Int.mul_comm (sumB false cs rs), ← Int.mul_assoc]
        omega
      | true =>
        simp only [if_true]
        rw [← ih (a + p * rd r c) A h', dot_head, Int.mul_add, Int.mul_comm (sumB true cs (r :: rs)), ← Int.mul_assoc]
        omega
theorem dot_end (w : Bool) : ∀ cs A, A.length = cs.length + 1 → dot w [] A cs = A.getD cs.length 0 := by
  intro cs
  induction cs with
  | nil => intro A h; cases A with
    | nil => simp at h
    | cons a A => simp [dot]
  | cons c cs ih =>
    intro A h
    cases A with
    | nil => simp at h
    | cons a A =>
      have h' : A.length = cs.length + 1 := by simpa using h
      simp only [dot, ih A h', sumB, stepB, List.length_cons, List.getD_cons_succ]
      omega
theorem dot_zeros (w : Bool) (rs : List (List Int)) : ∀ cs n, dot w rs (List.replicate n 0) cs = 0 := by
  intro cs
  induction cs with
  | nil => intro n; cases n <;> simp [dot, List.replicate_succ]
  | cons c cs ih => intro n; cases n with
    | zero => simp [dot]
    | succ n => simp [dot, List.replicate_succ, ih n]
theorem dot_start (w : Bool) (rs : List (List Int)) (cs : List Int) (n : Nat) : dot w rs (1 :: List.replicate n 0) cs = sumB w cs rs := by
  cases cs with
  | nil => simp [dot, sumB]
  | cons c cs => simp [dot, dot_zeros]
/-- The letters of a word, as numbers. -/
def lets (s : ByteArray) : Nat → Nat → List Int
  | 0, _ => []
  | n + 1, i => ((bt s i - 48) % 256) :: lets s n (i + 1)
theorem lets_length (s : ByteArray) : ∀ n i, (lets s n i).length = n := by
  intro n
  induction n with
  | zero => intro i; rfl
  | succ n ih => intro i; simp [lets, ih]
theorem rd_mid (P R : List Int) (p : Int) (j : Nat) (h : P.length = j) : rd ((P ++ p :: R).map wrap64) (j : Int) = wrap64 p := by
  subst h
  simp [rd, List.getD_eq_getElem?_getD]
theorem set_mid (P R : List Int) (p q v : Int) (j : Nat) (h : P.length = j) (hv : v = wrap64 q) : ((P ++ p :: R).map wrap64).set j v = (P ++ q :: R).map wrap64 := by
  subst h hv
  simp
theorem app_mid (P R : List Int) (p q : Int) : P ++ p :: q :: R = (P ++ [p]) ++ q :: R := by simp
/-- The letters stand in the entry. -/
def fits (m : Nat) (s : ByteArray) : Prop := ∀ i : Nat, i < s.size → (bt s i - 48) % 256 < (m : Int)
theorem impl_sumAt_l1 (s : ByteArray) (w : Bool) (rows : List (List Int)) (row : List Int) (x20 x21 : Int) (hs : s.size ≤ 1000) (hf : fits row.length s) : ∀ e k j (P Q R : List Int) (p q : Int), j + e = s.size → P.length = j → Q.length = j → R.length = e →
    impl_sumAt.l1 (k + e + 1) s w ((P ++ p :: R).map wrap64) row ((Q ++ q :: R).map wrap64) rows x20 x21 (s.size : Int) (j : Int) = impl_sumAt.l0 k s w ((P ++ p :: fwd w row (if w then p else q) (lets s e j) R).map wrap64) rows x20 (wrap64 (x21 + 1)) := by
  intro e
  induction e with
  | zero =>
    intro k j P Q R p q h hP hQ hR
    obtain rfl := List.eq_nil_of_length_eq_zero hR
    simp only [impl_sumAt.l1, lets, fwd]
    rw [if_neg (by omega)]
  | succ e ih =>
    intro k j P Q R p q h hP hQ hR
    cases R with
    | nil => simp at hR
    | cons a R =>
      have hR' : R.length = e := by simpa using hR
      rw [show k + (e + 1) + 1 = (k + e + 1) + 1 from by omega, impl_sumAt.l1]
      have hx := hf j (by omega)
      rw [if_pos (by omega), if_pos (by omega), if_pos (show (j : Int) < _ from by simp; omega), wrap_nat _ (by omega)]
      have e1 := rd_mid P (a :: R) p j hP
      have e2 : rd ((P ++ p :: a :: R).map wrap64) ((j + 1 : Nat) : Int) = wrap64 a := by rw [app_mid]; exact rd_mid _ _ _ _ (by simp; omega)
      have e3 := rd_mid Q (a :: R) q j hQ
      simp only [lets, fwd]
      cases w with
      | true =>
        simp only [if_true]
        rw [if_pos (show (j : Int) < _ from by simp; omega), if_pos (by omega), if_pos (show ((j + 1 : Nat) : Int) < _ from by simp; omega), if_pos (by omega), if_pos (by omega), if_pos hx, e1, e2, wrap_step, Int.toNat_natCast, app_mid P, set_mid (P ++ [p]) R a _ _ (j + 1) (by simp; omega) rfl, app_mid Q, ih k (j + 1) (P ++ [p]) (Q ++ [q]) R _ _ (by omega) (by simp; omega) (by simp; omega) hR', app_mid P]
        rfl
      | false =>
        simp only [Bool.false_eq_true, if_false]
        rw [if_pos (by omega), if_pos (show ((j + 1 : Nat) : Int) < _ from by simp; omega), if_pos (by omega), if_pos (by omega), if_pos hx, e3, e2, wrap_step, Int.toNat_natCast, app_mid P, set_mid (P ++ [p]) R a _ _ (j + 1) (by simp; omega) rfl, app_mid Q, ih k (j + 1) (P ++ [p]) (Q ++ [q]) R _ _ (by omega) (by simp; omega) (by simp; omega) hR', app_mid P]
        rfl
theorem impl_sumAt_l0 (s : ByteArray) (w : Bool) (rows : List (List Int)) (hs : s.size ≤ 1000) (hn : rows.length ≤ 1000) (hf : ∀ r ∈ rows, fits r.length s) : ∀ d k i (A : List Int), i + d = rows.length → d * (s.size + 2) < k → A.length = s.size + 1 →
    impl_sumAt.l0 k s w (A.map wrap64) rows (rows.length : Int) (i : Int) = some (wrap64 (dot w (rows.drop i) A (lets s s.size 0))) := by
  intro d
  induction d with
  | zero =>
    intro k i A h hk hA
    obtain ⟨k, rfl⟩ : ∃ m, k = m + 1 := ⟨k - 1, by omega⟩
    simp only [impl_sumAt.l0]
    rw [if_neg (by omega), if_pos (by omega), if_pos (by simp; omega), List.drop_of_length_le (by omega), dot_end w _ A (by rw [lets_length]; exact hA), lets_length, rd_nat _ _ (by simp; omega), List.getElem_map]
    congr 2
    simp [List.getD_eq_getElem?_getD, show s.size < A.length by omega]
  | succ d ih =>
    intro k i A h hk hA
    rw [Nat.succ_mul] at hk
    obtain ⟨k, rfl⟩ : ∃ m, k = (m + s.size + 1) + 1 := ⟨k - s.size - 2, by omega⟩
    simp only [impl_sumAt.l0, slices_Clone_int64_int64.f]
    rw [if_pos (by omega), if_pos (by omega), if_pos (by omega), if_pos (show (List.map wrap64 A).length * 8 ≤ 140737488355328 from by simp; omega), Option.bind_some, rdR_nat rows i (by omega)]
    cases A with
    | nil => simp at hA
    | cons a A =>
      have hA' : A.length = s.size := by simpa using hA
      have l1 := impl_sumAt_l1 s w rows rows[i] (rows.length : Int) (i : Int) hs (hf _ (List.getElem_mem (by omega))) s.size k 0 [] [] A a a (by omega) rfl rfl hA'
      simp only [List.nil_append, ite_self, Int.natCast_zero] at l1
      have l1' : impl_sumAt.l1 (k + s.size + 1) s w ((a :: A).map wrap64) rows[i] ((a :: A).map wrap64) rows (rows.length : Int) (i : Int) (s.size : Int) 0 = _ := l1
      rw [l1', wrap_nat _ (by omega), ih k (i + 1) _ (by omega) (by omega) (by simp [fwd_length, hA']), List.drop_eq_getElem_cons (show i < rows.length by omega), dot_fwd w _ _ _ _ _ (by rw [lets_length]; exact hA')]
theorem impl_sumAt_f (k : Nat) (s : ByteArray) (w : Bool) (rows : List (List Int)) (hs : s.size ≤ 5) (hn : rows.length ≤ 12) (hf : ∀ r ∈ rows, fits r.length s) (hk : 200 ≤ k) : impl_sumAt.f k rows s w = some (wrap64 (sumB w (lets s s.size 0) rows)) := by
  unfold impl_sumAt.f
  rw [wrap_nat _ (by omega), if_pos (by omega), if_pos (by omega), Option.bind_some, if_pos (by simp), Int.toNat_natCast, List.replicate_succ]
  have h0 : (((0 : Int) :: List.replicate s.size 0).set (0 : Int).toNat 1) = (1 :: List.replicate s.size 0 : List Int).map wrap64 := by
    simp [List.map_replicate, wrap64]
  have hm : rows.length * (s.size + 2) ≤ 12 * 7 := Nat.mul_le_mul hn (by omega)
  have := impl_sumAt_l0 s w rows (by omega) (by omega) hf rows.length k 0 (1 :: List.replicate s.size 0) (by omega) (by omega) (by simp)
  rw [h0]
  simpa [dot_start] using this

/-- The sums of the reference, from letter j on, at all places. -/
def okRow (w : Bool) (rows : List (List Int)) (cs : List Int) (x : List Int) (i : Nat) : Prop := x.length = rows.length + 1 ∧ ∀ q : Nat, i ≤ q → q ≤ rows.length → rd x (q : Int) = wrap64 (sumB w cs (rows.drop q))
theorem rd_set (x : List Int) (i q : Nat) (v : Int) (h : i < x.length) : rd (x.set i v) (q : Int) = if q = i then v else rd x (q : Int) := by
  simp only [rd, Int.toNat_natCast, List.getD_eq_getElem?_getD, List.getElem?_set]
  by_cases e : i = q
  · subst e; simp [h]
  · simp [e, Ne.symm e]
theorem spec_l10Sum_l2 (s : ByteArray) (w : Bool) (rows : List (List Int)) (hs : s.size ≤ 1000) (hn : rows.length ≤ 1000) (hf : ∀ r ∈ rows, fits r.length s) (j : Nat) (hj : j < s.size) (cs : List Int) (x8 : List Int) (h8 : okRow w rows cs x8 0) : ∀ i k (x11 : List Int), i ≤ rows.length → okRow w rows (((bt s j - 48) % 256) :: cs) x11 i →
    ∃ x, okRow w rows (((bt s j - 48) % 256) :: cs) x 0 ∧ spec_l10Sum.l2 (k + i + 1) rows s w (rows.length : Int) x8 (j : Int) x11 ((i : Int) - 1) = spec_l10Sum.l1 k rows s w (rows.length : Int) x (wrap64 ((j : Int) - 1)) := by
  intro i
  induction i with
  | zero =>
    intro k x11 hi h
    refine ⟨x11, h, ?_⟩
    rw [show k + 0 + 1 = k + 1 from rfl, spec_l10Sum.l2, if_neg (by omega)]
  | succ i ih =>
    intro k x11 hi h
    obtain ⟨hl, hx⟩ := h
    obtain ⟨hl8, hx8⟩ := h8
    have hr := hf rows[i] (List.getElem_mem (by omega)) j hj
    have hd : rows.drop i = rows[i] :: rows.drop (i + 1) := List.drop_eq_getElem_cons (by omega)
    rw [show k + (i + 1) + 1 = (k + i + 1) + 1 from by omega, spec_l10Sum.l2, show (((i + 1 : Nat) : Int) - 1) = (i : Int) from by omega, wrap_nat _ (by omega), rdR_nat rows i (by omega), wrap_of ((i : Int) - 1) (by omega) (by omega)]
    have key : ∀ v, v = wrap64 (sumB w (((bt s j - 48) % 256) :: cs) (rows.drop i)) → ∃ x, okRow w rows (((bt s j - 48) % 256) :: cs) x 0 ∧ spec_l10Sum.l2 (k + i + 1) rows s w (rows.length : Int) x8 (j : Int) (x11.set i v) ((i : Int) - 1) = spec_l10Sum.l1 k rows s w (rows.length : Int) x (wrap64 ((j : Int) - 1)) := by
      intro v hv
      refine ih k (x11.set i v) (by omega) ⟨by simpa using hl, fun q h1 h2 => ?_⟩
      rw [rd_set _ _ _ _ (by omega)]
      by_cases e : q = i
      · rw [if_pos e, hv, e]
      · rw [if_neg e]; exact hx q (by omega) h2
    rw [if_pos (by omega), hx (i + 1) (by omega) hi]
    cases w with
    | true =>
      simp only [if_true]
      rw [if_pos (by omega), if_pos (by omega), if_pos (by omega), if_pos (by omega), if_pos (by omega), if_pos (by omega), if_pos (by omega), if_pos hr, if_pos (by omega), if_pos (by omega), hx8 i (by omega) (by omega), wrap_step', Int.toNat_natCast]
      exact key _ (by rw [hd, sumB_cons]; rfl)
    | false =>
      simp only [Bool.false_eq_true, if_false]
      rw [if_pos (by omega), if_pos (by omega), if_pos (by omega), if_pos (by omega), if_pos (by omega), if_pos (by omega), if_pos (by omega), if_pos hr, if_pos (by omega), if_pos (by omega), hx8 (i + 1) (by omega) (by omega), wrap_step', Int.toNat_natCast]
      exact key _ (by rw [hd, sumB_cons]; rfl)
theorem lets_at (s : ByteArray) : ∀ n i, lets s (n + 1) i = ((bt s i - 48) % 256) :: lets s n (i + 1) := fun _ _ => rfl
theorem spec_l10Sum_l1 (s : ByteArray) (w : Bool) (rows : List (List Int)) (hs : s.size ≤ 1000) (hn : rows.length ≤ 1000) (hf : ∀ r ∈ rows, fits r.length s) : ∀ j k (x8 : List Int), j ≤ s.size → j * (rows.length + 2) < k → okRow w rows (lets s (s.size - j) j) x8 0 →
    spec_l10Sum.l1 k rows s w (rows.length : Int) x8 ((j : Int) - 1) = some (wrap64 (sumB w (lets s s.size 0) rows)) := by
  intro j
  induction j with
  | zero =>
    intro k x8 hj hk h
    obtain ⟨k, rfl⟩ : ∃ m, k = m + 1 := ⟨k - 1, by omega⟩
    obtain ⟨hl, hx⟩ := h
    have h0 := hx 0 (Nat.le_refl _) (Nat.zero_le _)
    rw [spec_l10Sum.l1, if_neg (by omega), if_pos (by omega)]
    simpa using h0
  | succ j ih =>
    intro k x8 hj hk h
    rw [Nat.succ_mul] at hk
    obtain ⟨k, rfl⟩ : ∃ m, k = (m + rows.length + 1) + 1 := ⟨k - rows.length - 2, by omega⟩
    rw [spec_l10Sum.l1, show (((j + 1 : Nat) : Int) - 1) = (j : Int) from by omega, wrap_nat _ (by omega), if_pos (by omega), if_pos (by omega), if_pos (by omega), wrap_of ((rows.length : Int) - 1) (by omega) (by omega), Int.toNat_natCast]
    have hc : ((bt s j - 48) % 256) :: lets s (s.size - (j + 1)) (j + 1) = lets s (s.size - j) j := by rw [← lets_at, show s.size - (j + 1) + 1 = s.size - j from by omega]
    obtain ⟨x, hx, he⟩ := spec_l10Sum_l2 s w rows hs hn hf j (by omega) _ x8 h rows.length k (List.replicate (rows.length + 1) 0) (Nat.le_refl _) ⟨by simp, fun q h1 h2 => by
      obtain rfl : q = rows.length := by omega
      rw [List.drop_length]
      simp [rd, sumB, stepB, wrap64, List.getD_eq_getElem?_getD]⟩
    rw [he, wrap_of ((j : Int) - 1) (by omega) (by omega), ih k x (by omega) (by omega) (by rw [← hc]; exact hx)]
theorem spec_l10Sum_l0 (s : ByteArray) (w : Bool) (rows : List (List Int)) (hs : s.size ≤ 1000) (hn : rows.length ≤ 1000) (hf : ∀ r ∈ rows, fits r.length s) : ∀ d k i (x8 : List Int), i + d = rows.length + 1 → d + s.size * (rows.length + 2) + 1 < k → x8.length = rows.length + 1 → (∀ q : Nat, q < i → rd x8 (q : Int) = 1) →
    spec_l10Sum.l0 k rows s w (rows.length : Int) x8 (i : Int) = some (wrap64 (sumB w (lets s s.size 0) rows)) := by
  intro d
  induction d with
  | zero =>
    intro k i x8 h hk hl hx
    obtain ⟨k, rfl⟩ : ∃ m, k = m + 1 := ⟨k - 1, by omega⟩
    rw [spec_l10Sum.l0, if_neg (by omega), wrap_of _ (by omega) (by omega)]
    refine spec_l10Sum_l1 s w rows hs hn hf s.size k x8 (Nat.le_refl _) (by omega) ⟨hl, fun q _ h2 => ?_⟩
    rw [Nat.sub_self, hx q (by omega)]
    simp [lets, sumB, wrap64]
  | succ d ih =>
    intro k i x8 h hk hl hx
    obtain ⟨k, rfl⟩ : ∃ m, k = m + 1 := ⟨k - 1, by omega⟩
    rw [spec_l10Sum.l0, if_pos (by omega), if_pos (by omega), if_pos (by omega), wrap_nat _ (by omega), Int.toNat_natCast]
    refine ih k (i + 1) _ (by omega) (by omega) (by simpa using hl) (fun q hq => ?_)
    rw [rd_set _ _ _ _ (by omega)]
    by_cases e : q = i
    · rw [if_pos e]
    · rw [if_neg e]; exact hx q (by omega)
theorem spec_l10Sum_f (k : Nat) (s : ByteArray) (w : Bool) (rows : List (List Int)) (hs : s.size ≤ 5) (hn : rows.length ≤ 12) (hf : ∀ r ∈ rows, fits r.length s) (hk : 200 ≤ k) : spec_l10Sum.f k rows s w = some (wrap64 (sumB w (lets s s.size 0) rows)) := by
  unfold spec_l10Sum.f
  have hm : s.size * (rows.length + 2) ≤ 5 * 14 := Nat.mul_le_mul hs (by omega)
  rw [wrap_nat _ (by omega), if_pos (by omega), if_pos (by omega), Int.toNat_natCast]
  exact spec_l10Sum_l0 s w rows (by omega) (by omega) hf (rows.length + 1) k 0 _ (by omega) (by omega) (by simp) (fun q h => absurd h (Nat.not_lt_zero _))

/-- Are these the letters of a word? -/
def isWd (d : Int) (s : ByteArray) : Nat → Nat → Bool
  | 0, _ => true
  | n + 1, i => (decide (48 ≤ bt s i) && decide (bt s i < 48 + d)) && isWd d s n (i + 1)
theorem isWd_fits (d : Int) (s : ByteArray) : ∀ n i, isWd d s n i = true → ∀ q : Nat, i ≤ q → q < i + n → (bt s q - 48) % 256 < d := by
  intro n
  induction n with
  | zero => intro i _ q h1 h2; omega
  | succ n ih =>
    intro i h q h1 h2
    simp only [isWd, Bool.and_eq_true, decide_eq_true_eq] at h
    by_cases e : q = i
    · subst e; have := bt_range s q; omega
    · exact ih (i + 1) h.2 q (by omega) (by omega)
theorem spec_l01Word_l0 (d : Int) (hd : 1 ≤ d) (hd3 : d ≤ 3) (s : ByteArray) (hs : s.size ≤ 1048576) : ∀ n k i, i + n = s.size → n < k → spec_l01Word.l0 k d s (i : Int) = some (isWd d s n i) := by
  intro n
  induction n with
  | zero =>
    intro k i h hk
    obtain ⟨k, rfl⟩ : ∃ m, k = m + 1 := ⟨k - 1, by omega⟩
    rw [spec_l01Word.l0, if_neg (by omega)]; rfl
  | succ n ih =>
    intro k i h hk
    obtain ⟨k, rfl⟩ : ∃ m, k = m + 1 := ⟨k - 1, by omega⟩
    have hb := bt_range s i
    rw [spec_l01Word.l0, if_pos (by omega), if_pos (by omega), wrap_nat _ (by omega), ih k (i + 1) (by omega) (by omega), isWd]
    by_cases h1 : bt s i < 48
    · rw [if_pos h1, decide_eq_false (by omega : ¬ 48 ≤ bt s i)]; rfl
    · rw [if_neg h1, decide_eq_true (by omega : 48 ≤ bt s i)]
      by_cases h2 : (bt s i - 48) % 256 ≥ d
      · rw [if_pos h2, decide_eq_false (by omega : ¬ bt s i < 48 + d)]; rfl
      · rw [if_neg h2, decide_eq_true (by omega : bt s i < 48 + d)]; simp
theorem impl_isWord_l0 (d : Int) (hd : 1 ≤ d) (hd3 : d ≤ 3) (s : ByteArray) (hs : s.size ≤ 1048576) : ∀ n k i, i + n = s.size → n < k → impl_isWord.l0 k d s 1099511627776 (s.size : Int) (i : Int) = some (isWd d s n i) := by
  intro n
  induction n with
  | zero =>
    intro k i h hk
    obtain ⟨k, rfl⟩ : ∃ m, k = m + 1 := ⟨k - 1, by omega⟩
    rw [impl_isWord.l0, if_neg (by omega), decide_eq_true (by omega)]; rfl
  | succ n ih =>
    intro k i h hk
    obtain ⟨k, rfl⟩ : ∃ m, k = m + 1 := ⟨k - 1, by omega⟩
    have hb := bt_range s i
    rw [impl_isWord.l0, if_pos (by omega), if_pos (by omega), if_pos (by omega), wrap_nat _ (by omega), wrap_of (bt s i) (by omega) (by omega), wrap_of (48 + d) (by omega) (by omega), ih k (i + 1) (by omega) (by omega), isWd]
    by_cases h1 : bt s i < 48
    · rw [if_pos h1, decide_eq_false (by omega : ¬ 48 ≤ bt s i)]; rfl
    · rw [if_neg h1, decide_eq_true (by omega : 48 ≤ bt s i)]
      by_cases h2 : bt s i ≥ 48 + d
      · rw [if_pos h2, decide_eq_false (by omega : ¬ bt s i < 48 + d)]; rfl
      · rw [if_neg h2, decide_eq_true (by omega : bt s i < 48 + d)]; simp
/-- A row of a path. -/
def okStep (d : Int) (r : List Int) : Bool := decide ((r.length : Int) = d) && r.all fun n => decide (-100 ≤ n) && decide (n ≤ 100)
def isPth (d : Int) (rows : List (List Int)) : Bool := (decide (1 ≤ d) && decide (d ≤ 3)) && decide ((rows.length : Int) ≤ 12) && rows.all (okStep d)
theorem spec_l04Is_l1 (d : Int) (rows : List (List Int)) (i : Nat) (hi : i < rows.length) (hn : rows.length ≤ 12) (hl : rows[i].length ≤ 3) : ∀ n k j, j + n = rows[i].length →
    spec_l04Is.l1 (k + n + 1) d rows (i : Int) (j : Int) = if (rows[i].drop j).all (fun n => decide (-100 ≤ n) && decide (n ≤ 100)) = true then spec_l04Is.l0 k d rows (wrap64 ((i : Int) + 1)) else some false := by
  intro n
  induction n with
  | zero =>
    intro k j h
    rw [show k + 0 + 1 = k + 1 from rfl, spec_l04Is.l1, if_pos (by omega), if_pos (by omega), rdR_nat rows i hi, if_neg (by omega), List.drop_of_length_le (by omega)]
    simp
  | succ n ih =>
    intro k j h
    rw [show k + (n + 1) + 1 = (k + n + 1) + 1 from by omega, spec_l04Is.l1, if_pos (by omega), if_pos (by omega), rdR_nat rows i hi, if_pos (by omega), if_pos (by omega), rd_nat _ j (by omega), spec_l01In_f, Option.bind_some, wrap_nat _ (by omega), ih k (j + 1) (by omega), List.drop_eq_getElem_cons (show j < rows[i].length by omega), List.all_cons]
    cases hb : (decide (-100 ≤ rows[i][j]) && decide (rows[i][j] ≤ 100)) <;> simp
theorem spec_l04Is_l0 (d : Int) (hd3 : d ≤ 3) (rows : List (List Int)) (hn : rows.length ≤ 12) : ∀ n k i, i + n = rows.length → n * 6 < k → spec_l04Is.l0 k d rows (i : Int) = some ((rows.drop i).all (okStep d)) := by
  intro n
  induction n with
  | zero =>
    intro k i h hk
    obtain ⟨k, rfl⟩ : ∃ m, k = m + 1 := ⟨k - 1, by omega⟩
    rw [spec_l04Is.l0, if_neg (by omega), List.drop_of_length_le (by omega)]
    rfl
  | succ n ih =>
    intro k i h hk
    obtain ⟨k, rfl⟩ : ∃ m, k = m + 1 := ⟨k - 1, by omega⟩
    rw [spec_l04Is.l0, if_pos (by omega), if_pos (by omega), rdR_nat rows i (by omega), List.drop_eq_getElem_cons (show i < rows.length by omega), List.all_cons]
    rw [show okStep d rows[i] = (decide ((rows[i].length : Int) = d) && rows[i].all fun n => decide (-100 ≤ n) && decide (n ≤ 100)) from rfl]
    by_cases hl : (rows[i].length : Int) = d
    · rw [if_pos hl, decide_eq_true hl]
      have hi : i < rows.length := by omega
      obtain ⟨L, hL⟩ : ∃ L, L = (rows[i]'hi).length := ⟨_, rfl⟩
      obtain ⟨k, rfl⟩ : ∃ m, k = m + L + 1 := ⟨k - L - 1, by omega⟩
      have := spec_l04Is_l1 d rows i (by omega) hn (by omega) L k 0 (by omega)
      rw [List.drop_zero] at this
      have this' : spec_l04Is.l1 (k + L + 1) d rows (i : Int) 0 = _ := this
      rw [this', wrap_nat _ (by omega), ih k (i + 1) (by omega) (by omega)]
      cases hb : rows[i].all (fun n => decide (-100 ≤ n) && decide (n ≤ 100)) <;> simp [hb]
    · rw [if_neg hl, decide_eq_false hl]; simp
theorem spec_l04Is_f (k : Nat) (d : Int) (rows : List (List Int)) (hk : 100 ≤ k) (hn : rows.length ≤ 4000000) : spec_l04Is.f k d rows = some (isPth d rows) := by
  unfold spec_l04Is.f isPth
  rw [spec_l01In_f, Option.bind_some]
  obtain ⟨k, rfl⟩ : ∃ m, k = m + 1 := ⟨k - 1, by omega⟩
  by_cases hb : 1 ≤ d ∧ d ≤ 3
  · rw [decide_eq_true hb.1, decide_eq_true hb.2, Bool.and_self, if_pos rfl, spec_l04Is.j0]
    by_cases hl : (rows.length : Int) ≤ 12
    · rw [decide_eq_true hl, decide_eq_false (by omega : ¬ (rows.length : Int) > 12), if_neg (by simp)]
      have := spec_l04Is_l0 d hb.2 rows (by omega) rows.length k 0 (by omega) (by omega)
      rw [List.drop_zero] at this
      simpa using this
    · rw [decide_eq_false hl, decide_eq_true (by omega : (rows.length : Int) > 12), if_pos rfl]
      simp
  · have h : (decide (1 ≤ d) && decide (d ≤ 3)) = false := by
      by_cases h1 : 1 ≤ d
      · simp [h1, show ¬ d ≤ 3 from fun h2 => hb ⟨h1, h2⟩]
      · simp [h1]
    rw [h, if_neg (by simp), spec_l04Is.j0, if_pos rfl]
    simp
theorem impl_IsPath_f (d : Int) (rows : List (List Int)) : impl_IsPath.f d rows = some (isPth d rows) := by
  unfold impl_IsPath.f isPth
  congr 2
  rw [Bool.eq_iff_iff]
  simp only [Bool.not_eq_true', List.any_eq_false, List.all_eq_true, okStep, Bool.or_eq_true, Bool.and_eq_true, decide_eq_true_eq, not_or, Hand.upToB, Bool.not_not, Decidable.not_not]
  refine ⟨fun h r hr => ?_, fun h r hr => ?_⟩
  · obtain ⟨h1, h2⟩ := h r hr
    refine ⟨by simpa using h1, fun n hn => ?_⟩
    have h3 := h2
    simp only [Bool.not_eq_true, List.any_eq_false, List.any_eq_true, not_exists, not_and] at h3
    have h4 := h3 n hn
    simpa [wrap64] using h4
  · obtain ⟨h1, h2⟩ := h r hr
    refine ⟨by simpa using h1, ?_⟩
    simp only [Bool.not_eq_true, List.any_eq_false, List.any_eq_true, not_exists, not_and]
    intro n hn
    have := h2 n hn
    simpa [wrap64] using this
/-- What StrictSum and WeakSum return. -/
def sumRes (w : Bool) (d : Int) (rows : List (List Int)) (s : ByteArray) : Int × Int :=
  if isPth d rows && isWd d s s.size 0 then (if (s.size : Int) > 5 then (0, 2) else
    let t := wrap64 (sumB w (lets s s.size 0) rows)
    if (decide (-1000000000000000 ≤ t) && decide (t ≤ 1000000000000000)) = true then (t, 0) else (0, 3)) else (0, 1)
theorem isPth_bounds {d : Int} {rows : List (List Int)} (h : isPth d rows = true) : 1 ≤ d ∧ d ≤ 3 ∧ rows.length ≤ 12 ∧ ∀ r ∈ rows, (r.length : Int) = d := by
  unfold isPth at h
  simp only [Bool.and_eq_true, decide_eq_true_eq, List.all_eq_true, okStep] at h
  exact ⟨h.1.1.1, h.1.1.2, by omega, fun r hr => (h.2 r hr).1⟩
theorem spec_sum_f (w : Bool) (k : Nat) (d : Int) (rows : List (List Int)) (s : ByteArray) (hn : rows.length ≤ 4000000) (hs : s.size ≤ 1048576) (hk : 1100000 ≤ k) :
    ((spec_l10Code.f k d rows s).bind fun t => (if t = 0 then ((spec_l10Sum.f k rows s w).bind fun t => ((spec_l10Told.f t).bind fun bt => (some (bt.1, bt.2)))) else (some (0, t)))) = some (sumRes w d rows s) := by
  obtain ⟨k, rfl⟩ : ∃ m, k = m + 1 := ⟨k - 1, by omega⟩
  unfold spec_l10Code.f sumRes
  rw [spec_l04Is_f _ d rows (by omega) hn, Option.bind_some]
  by_cases hp : isPth d rows = true
  · obtain ⟨h1, h3, h12, hr⟩ := isPth_bounds hp
    rw [hp, if_pos rfl, spec_l01Word.f, show spec_l01Word.l0 (k + 1) d s 0 = _ from spec_l01Word_l0 d h1 h3 s hs s.size (k + 1) 0 (by omega) (by omega), Option.bind_some, spec_l10Code.j0, Bool.true_and]
    by_cases hw : isWd d s s.size 0 = true
    · rw [hw, if_neg (by simp), if_pos rfl]
      by_cases h5 : (s.size : Int) > 5
      · rw [if_pos h5, if_pos h5]; try rfl
      · rw [if_neg h5, if_neg h5, Option.bind_some, if_pos rfl, spec_l10Sum_f _ s w rows (by omega) h12 (fun r hr' i hi => by rw [hr r hr']; exact isWd_fits d s s.size 0 hw i (by omega) (by omega)) (by omega), Option.bind_some, spec_l10Told.f, spec_l01In_f, Option.bind_some]
        dsimp only
        split <;> rfl
    · rw [Bool.not_eq_true] at hw
      rw [hw, if_pos (by rfl), if_neg (by simp)]; try rfl
  · rw [Bool.not_eq_true] at hp
    rw [hp, if_neg (by simp), spec_l10Code.j0, if_pos rfl]; try rfl
theorem impl_sumOf_f (w : Bool) (k : Nat) (d : Int) (rows : List (List Int)) (s : ByteArray) (hs : s.size ≤ 1048576) (hk : 1100000 ≤ k) : impl_sumOf.f k d rows s w = some (sumRes w d rows s) := by
  obtain ⟨k, rfl⟩ : ∃ m, k = m + 1 := ⟨k - 1, by omega⟩
  unfold impl_sumOf.f sumRes
  rw [impl_IsPath_f, Option.bind_some]
  by_cases hp : isPth d rows = true
  · obtain ⟨h1, h3, h12, hr⟩ := isPth_bounds hp
    rw [hp, if_pos rfl, impl_isWord.f, show impl_isWord.l0 (k + 1) d s 1099511627776 (s.size : Int) 0 = _ from impl_isWord_l0 d h1 h3 s hs s.size (k + 1) 0 (by omega) (by omega), Option.bind_some, impl_sumOf.j0, Bool.true_and]
    by_cases hw : isWd d s s.size 0 = true
    · rw [hw, if_neg (by simp), if_pos rfl]
      by_cases h5 : (s.size : Int) > 5
      · rw [if_pos h5, if_pos h5]; try rfl
      · rw [if_neg h5, if_neg h5, impl_sumAt_f _ s w rows (by omega) h12 (fun r hr' i hi => by rw [hr r hr']; exact isWd_fits d s s.size 0 hw i (by omega) (by omega)) (by omega), Option.bind_some, impl_upTo.f, wrap_of (-1000000000000000) (by omega) (by omega), impl_within.f]
        dsimp only
        split <;> split <;> simp_all <;> omega
    · rw [Bool.not_eq_true] at hw
      rw [hw, if_pos (by rfl), if_neg (by simp)]; try rfl
  · rw [Bool.not_eq_true] at hp
    rw [hp, if_neg (by simp), impl_sumOf.j0, if_pos rfl]; try rfl

end Go.Proofs.Ytbpipmkgclkhgaa.Pure
