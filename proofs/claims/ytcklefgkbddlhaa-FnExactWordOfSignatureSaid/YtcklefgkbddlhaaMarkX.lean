/- Plain lemmas and contracts of this session, of which the parts' own heads tell. -/
import Derived.Test.YtcklefgkbddlhaaPx1
import Derived.Test.YtcklefgkbddlhaaPx2
import Derived.Test.YtcklefgkbddlhaaBaseX
import Derived.Test.YtcklefgkbddlhaaPx3
import Derived.Test.YtcklefgkbddlhaaPx16
/- Plain lemmas on what the laws do with series that come in: sizes, copies, equality. -/
namespace Go.Proofs.Ytcklefgkbddlhaa.Pure
open Go.RowKit Go.Proofs.Ytcklefgkbddlhaa.P Go.Proofs.YtcklefgkbddlhaaW.PrintWords Go.Proofs.YtcklefgkbddlhaaW.PrintLast
set_option linter.unusedVariables false
set_option linter.unusedSimpArgs false

theorem take_setA {α : Type} (x : List α) (i : Nat) (a : α) (h : i < x.length) : (x.set i a).take (i + 1) = x.take i ++ [a] := by
  rw [List.take_succ_eq_append_getElem (by simpa using h)]
  simp [List.take_set_of_le]
theorem rdL_nat (l : List S124) (i : Nat) (h : i < l.length) : rd_T124 l (i : Int) = l[i] := by simp [rd_T124, List.getD_eq_getElem?_getD, h]
/-- A term of the laws as one of the program. -/
def tmOf (x : S124) : S89 := ⟨x.f0, ⟨x.f1.f0, x.f1.f1⟩⟩
theorem toTermS_l0 (l : List S124) (hl : l.length ≤ 1048576) : ∀ d k i (x : List S89), i + d = l.length → d < k → x.length = l.length → laws_toTermS.l0 k l x (i : Int) = some (x.take i ++ (l.drop i).map tmOf) := by
  intro d
  induction d with
  | zero =>
    intro k i x h hk hx
    obtain ⟨k, rfl⟩ : ∃ m, k = m + 1 := ⟨k - 1, by omega⟩
    simp only [laws_toTermS.l0]
    rw [if_neg (by omega), List.drop_of_length_le (by omega), List.take_of_length_le (by omega), List.map_nil, List.append_nil]
  | succ d ih =>
    intro k i x h hk hx
    obtain ⟨k, rfl⟩ : ∃ m, k = m + 1 := ⟨k - 1, by omega⟩
    simp only [laws_toTermS.l0]
    rw [if_pos (by omega), if_pos (by omega), rdL_nat l i (by omega)]
    unfold laws_toTerm.f laws_toFraction.f
    simp only [Option.bind_some]
    rw [if_pos (by omega), wrap_nat _ (by omega), ih k (i + 1) _ (by omega) (by omega) (by simpa using hx), Int.toNat_natCast, take_setA x i _ (by omega), List.append_assoc, List.drop_eq_getElem_cons (show i < l.length by omega)]
    rfl
theorem toTermS_f (k : Nat) (l : List S124) (hl : l.length ≤ 1048576) (hk : l.length < k) : laws_toTermS.f k l = some (l.map tmOf) := by
  unfold laws_toTermS.f
  rw [if_pos (by omega), if_pos (by omega)]
  have := toTermS_l0 l hl l.length k 0 (List.replicate ((l.length : Int)).toNat z89) (by omega) hk (by simp)
  simpa using this
theorem toSeries_f (k : Nat) (d n : Int) (l : List S124) (hl : l.length ≤ 1048576) (hk : l.length < k) : laws_toSeries.f k d n l = some (d, n, l.map tmOf) := by
  unfold laws_toSeries.f
  rw [toTermS_f k l hl hk, Option.bind_some]
theorem eqTermS_l0 (l : List S89) (hl : l.length ≤ 1048576) : ∀ d k i, i + d = l.length → d < k → laws_eqTermS.l0 k l l (i : Int) = some true := by
  intro d
  induction d with
  | zero =>
    intro k i h hk
    obtain ⟨k, rfl⟩ : ∃ m, k = m + 1 := ⟨k - 1, by omega⟩
    simp only [laws_eqTermS.l0]
    rw [if_neg (by omega)]
  | succ d ih =>
    intro k i h hk
    obtain ⟨k, rfl⟩ : ∃ m, k = m + 1 := ⟨k - 1, by omega⟩
    simp only [laws_eqTermS.l0]
    rw [if_pos (by omega), if_pos (by omega), if_pos (by omega), wrap_nat _ (by omega), ih k (i + 1) (by omega) (by omega)]
    unfold laws_eqTerm.f laws_eqFraction.f
    simp
theorem eqTermS_f (k : Nat) (l : List S89) (hl : l.length ≤ 1048576) (hk : l.length < k) : laws_eqTermS.f k l l = some true := by
  unfold laws_eqTermS.f
  rw [if_pos rfl]
  exact eqTermS_l0 l hl l.length k 0 (by omega) hk
theorem eqSeries_f (k : Nat) (d n : Int) (l : List S89) (hl : l.length ≤ 1048576) (hk : l.length < k) : laws_eqSeries.f k d n l d n l = some true := by
  unfold laws_eqSeries.f
  rw [if_pos rfl, if_pos rfl, eqTermS_f k l hl hk]
  rfl
/-- What has not run out. -/
def Left (t : Int) (l : List S124) (left : Int) : Prop := t < 0 ∨ (0 ≤ t ∧ t ≤ left ∧ ∀ x ∈ l, (x.f0.size : Int) ≤ left)
theorem szTermS_l0 (l : List S124) (hw : ∀ x ∈ l, x.f0.size ≤ maxLen) (hl : l.length ≤ 1048576) : ∀ d k i left, i + d = l.length → d < k → 0 ≤ left → left ≤ 1048576 → ∃ t, laws_szTermS.l0 k l left (i : Int) = some t ∧ Left t (l.drop i) left := by
  have hM : maxLen = 9223372036854775807 := rfl
  intro d
  induction d with
  | zero =>
    intro k i left h hk h0 h1
    obtain ⟨k, rfl⟩ : ∃ m, k = m + 1 := ⟨k - 1, by omega⟩
    refine ⟨left, ?_, .inr ⟨h0, Int.le_refl _, ?_⟩⟩
    · simp only [laws_szTermS.l0]
      rw [if_neg (by omega)]
    · rw [List.drop_of_length_le (by omega)]
      intro x hx; cases hx
  | succ d ih =>
    intro k i left h hk h0 h1
    obtain ⟨k, rfl⟩ : ∃ m, k = m + 1 := ⟨k - 1, by omega⟩
    have hi : i < l.length := by omega
    have hs := hw l[i] (List.getElem_mem _)
    have hwr : wrap64 (left - (l[i].f0.size : Int)) = left - (l[i].f0.size : Int) := wrap_of _ (by omega) (by omega)
    simp only [laws_szTermS.l0]
    rw [if_pos (by omega), if_pos (by omega), rdL_nat l i hi]
    unfold laws_szTerm.f
    rw [hwr]
    by_cases hc : left - (l[i].f0.size : Int) < 0
    · refine ⟨-1, ?_, .inl (by decide)⟩
      rw [if_pos hc, Option.bind_some, if_pos (by decide)]
    · obtain ⟨t, ht, hL⟩ := ih k (i + 1) (left - (l[i].f0.size : Int)) (by omega) (by omega) (by omega) (by omega)
      refine ⟨t, ?_, ?_⟩
      · rw [if_neg hc, Option.bind_some, if_neg (by omega), wrap_nat _ (by omega)]
        exact ht
      · rcases hL with hL | ⟨a, b, c⟩
        · exact .inl hL
        · refine .inr ⟨a, by omega, ?_⟩
          rw [List.drop_eq_getElem_cons hi]
          intro x hx
          rcases List.mem_cons.1 hx with rfl | hx
          · omega
          · have := c x hx; omega
theorem szTermS_f (k : Nat) (l : List S124) (left : Int) (hw : ∀ x ∈ l, x.f0.size ≤ maxLen) (hl : l.length ≤ maxLen) (hk : 1048576 < k) (h0 : 0 ≤ left) (h1 : left ≤ 1048576) :
    ∃ t, laws_szTermS.f k l left = some t ∧ (t < 0 ∨ (0 ≤ t ∧ t + (l.length : Int) ≤ left ∧ (l.length : Int) ≤ left ∧ ∀ x ∈ l, (x.f0.size : Int) ≤ left)) := by
  have hM : maxLen = 9223372036854775807 := rfl
  unfold laws_szTermS.f
  rw [wrap_of _ (by omega) (by omega)]
  by_cases hc : left - (l.length : Int) < 0
  · exact ⟨-1, by rw [if_pos hc], .inl (by decide)⟩
  · obtain ⟨t, ht, hL⟩ := szTermS_l0 l hw (by omega) l.length k 0 (left - (l.length : Int)) (by omega) (by omega) (by omega) (by omega)
    refine ⟨t, by rw [if_neg hc]; exact ht, ?_⟩
    rcases hL with hL | ⟨a, b, c⟩
    · exact .inl hL
    · refine .inr ⟨a, by omega, by omega, fun x hx => ?_⟩
      have := c x (by rw [List.drop_zero]; exact hx)
      omega
theorem szSeries_f (k : Nat) (d n : Int) (l : List S124) (left : Int) (hw : ∀ x ∈ l, x.f0.size ≤ maxLen) (hl : l.length ≤ maxLen) (hk : 1048576 < k) (h0 : 0 ≤ left) (h1 : left ≤ 1048576) :
    ∃ t, laws_szSeries.f k d n l left = some t ∧ (t < 0 ∨ (0 ≤ t ∧ t + (l.length : Int) ≤ left ∧ (l.length : Int) ≤ left ∧ ∀ x ∈ l, (x.f0.size : Int) ≤ left)) := by
  obtain ⟨t, ht, h⟩ := szTermS_f k l left hw hl hk h0 h1
  unfold laws_szSeries.f
  rw [ht, Option.bind_some]
  by_cases hc : t < 0
  · exact ⟨-1, by rw [if_pos hc], .inl (by decide)⟩
  · exact ⟨t, by rw [if_neg hc], h⟩
theorem tmOf_mem {l : List S124} {m : Nat} (h : ∀ x ∈ l, (x.f0.size : Int) ≤ m) : ∀ t ∈ l.map tmOf, t.f0.size ≤ m := by
  intro t ht
  obtain ⟨x, hx, rfl⟩ := List.mem_map.1 ht
  have := h x hx
  show x.f0.size ≤ m
  omega
theorem take_set (x : List Int) (i : Nat) (a : Int) (h : i < x.length) : (x.set i a).take (i + 1) = x.take i ++ [a] := by
  rw [List.take_succ_eq_append_getElem (by simpa using h)]
  simp [List.take_set_of_le]

theorem eqInt64S_l0 (l : List Int) (hl : l.length ≤ 4000000) : ∀ d k i, i + d = l.length → d < k → laws_eqInt64S.l0 k l l (i : Int) = some true := by
  intro d
  induction d with
  | zero =>
    intro k i h hk
    obtain ⟨k, rfl⟩ : ∃ m, k = m + 1 := ⟨k - 1, by omega⟩
    simp only [laws_eqInt64S.l0]
    rw [if_neg (by omega)]
  | succ d ih =>
    intro k i h hk
    obtain ⟨k, rfl⟩ : ∃ m, k = m + 1 := ⟨k - 1, by omega⟩
    simp only [laws_eqInt64S.l0]
    rw [if_pos (by omega), if_pos (by omega), if_pos (by omega), if_pos trivial, wrap_nat _ (by omega), ih k (i + 1) (by omega) (by omega)]
theorem eqInt64S_f (k : Nat) (l : List Int) (hl : l.length ≤ 4000000) (hk : l.length < k) : laws_eqInt64S.f k l l = some true := by
  unfold laws_eqInt64S.f
  rw [if_pos rfl]
  exact eqInt64S_l0 l hl l.length k 0 (by omega) hk

/-- The marks from m on, n of them. -/
def marks (m : Int) : Nat → List Int
  | 0 => []
  | n + 1 => m :: marks (m + 1) n
theorem marks_length (n : Nat) : ∀ m, (marks m n).length = n := by
  induction n with
  | zero => intro m; rfl
  | succ n ih => intro m; simp [marks, ih]
theorem markInt64S_l0 : ∀ d k i (x : List Int) (m : Int), i + d = x.length → x.length ≤ 4000000 → d < k → 0 ≤ m → m ≤ 1000000000 → laws_markInt64S.l0 k x (m + i) (i : Int) = some (m + x.length, x.take i ++ marks (m + i) d) := by
  intro d
  induction d with
  | zero =>
    intro k i x m h hl hk h0 h1
    obtain ⟨k, rfl⟩ : ∃ m, k = m + 1 := ⟨k - 1, by omega⟩
    simp only [laws_markInt64S.l0]
    rw [if_neg (by omega), List.take_of_length_le (by omega)]
    simp only [marks, List.append_nil]
    rw [show i = x.length by omega]
  | succ d ih =>
    intro k i x m h hl hk h0 h1
    obtain ⟨k, rfl⟩ : ∃ m, k = m + 1 := ⟨k - 1, by omega⟩
    simp only [laws_markInt64S.l0]
    rw [if_pos (by omega), if_pos (by omega), wrap_nat _ (by omega), wrap_of (m + i + 1) (by omega) (by omega), show m + (i : Int) + 1 = m + ((i + 1 : Nat) : Int) by omega, Int.toNat_natCast]
    rw [ih k (i + 1) (x.set i (m + i)) m (by simp; omega) (by simpa using hl) (by omega) h0 h1, take_set x i _ (by omega), List.length_set, List.append_assoc]
    simp only [marks, List.singleton_append]
    rw [show m + (i : Int) + 1 = m + ((i + 1 : Nat) : Int) by omega]
theorem markInt64S_f (k : Nat) (x : List Int) (m : Int) (hl : x.length ≤ 4000000) (hk : x.length < k) (h0 : 0 ≤ m) (h1 : m ≤ 1000000000) : laws_markInt64S.f k x m = some (m + x.length, marks m x.length) := by
  unfold laws_markInt64S.f
  have := markInt64S_l0 x.length k 0 x m (by omega) hl hk h0 h1
  simpa using this
theorem heldInt64S_l0 : ∀ d k i (p : List Int) (m : Int), p.length = i → i + d ≤ 4000000 → d < k → 0 ≤ m → m + d ≤ 4000000000 → laws_heldInt64S.l0 k (p ++ marks m d) m (i : Int) = some (m + d) := by
  intro d
  induction d with
  | zero =>
    intro k i p m h hl hk h0 h1
    obtain ⟨k, rfl⟩ : ∃ m, k = m + 1 := ⟨k - 1, by omega⟩
    simp only [laws_heldInt64S.l0, marks, List.append_nil]
    rw [if_neg (by omega)]
    simp
  | succ d ih =>
    intro k i p m h hl hk h0 h1
    obtain ⟨k, rfl⟩ : ∃ m, k = m + 1 := ⟨k - 1, by omega⟩
    have hlen : (p ++ marks m (d + 1)).length = i + (d + 1) := by simp [marks_length, h]
    have hrd : rd (p ++ marks m (d + 1)) (i : Int) = m := by
      rw [rd_nat _ i (by omega), List.getElem_append_right (by omega)]
      simp [h, marks]
    simp only [laws_heldInt64S.l0]
    rw [if_pos (by omega), if_pos (by omega), if_pos hrd, wrap_nat _ (by omega), wrap_of (m + 1) (by omega) (by omega)]
    have := ih k (i + 1) (p ++ [m]) (m + 1) (by simp [h]) (by omega) (by omega) (by omega) (by omega)
    rw [List.append_assoc] at this
    simp only [List.singleton_append] at this
    simp only [marks]
    rw [this]
    congr 1
    omega
theorem heldInt64S_f (k : Nat) (m : Int) (n : Nat) (hl : n ≤ 4000000) (hk : n < k) (h0 : 0 ≤ m) (h1 : m ≤ 1000000000) : laws_heldInt64S.f k (marks m n) m = some (m + n) := by
  unfold laws_heldInt64S.f
  have := heldInt64S_l0 n k 0 [] m rfl (by omega) hk h0 (by omega)
  simpa using this


end Go.Proofs.Ytcklefgkbddlhaa.Pure
/- The marks of terms: the texts, and what laws.heldSeries says of them. -/
namespace Go.Proofs.Ytcklefgkbddlhaa.Tab
open Go.RowKit Go.Proofs.Ytcklefgkbddlhaa.P Go.Proofs.YtcklefgkbddlhaaW.PrintWords Go.Proofs.YtcklefgkbddlhaaW.PrintLast Go.Proofs.YtcklefgkbddlhaaW.PrintMore Go.Proofs.Ytcklefgkbddlhaa.Pure
set_option linter.unusedVariables false
set_option linter.unusedSimpArgs false

theorem strOf1 (x : Int) : (strOfNums [x]).size = 1 := by
  unfold strOfNums
  rfl
theorem markText_l0 : ∀ (n : Nat) (k : Nat) (x : Int) (s : ByteArray), x < 10 ^ n → x ≤ 10000000 → n < k → s.size + n ≤ 1000 → ∃ r, laws_markText.l0 k x s = some r
  | n, 0, x, s, h, hx, hk, hs => by omega
  | 0, k + 1, x, s, h, hx, hk, hs => by
    unfold laws_markText.l0
    rw [if_neg (by simp at h; omega), if_pos (by omega)]
    exact ⟨_, rfl⟩
  | n + 1, k + 1, x, s, h, hx, hk, hs => by
    unfold laws_markText.l0
    by_cases h0 : x > 0
    · have e1 := strOf1 ((wrap64 (48 + (Int.tmod x 10))) % 256)
      rw [if_pos h0, Option.bind_some, if_pos (by rw [e1]; omega)]
      have e2 : Int.tdiv x 10 = x / 10 := Int.tdiv_eq_ediv_of_nonneg (by omega)
      rw [wrap_of _ (by rw [e2]; omega) (by rw [e2]; omega), e2]
      refine markText_l0 n k _ _ ?_ (by omega) (by omega) (by rw [ByteArray.size_append, e1]; omega)
      rw [Int.pow_succ] at h
      omega
    · rw [if_neg h0, if_pos (by omega)]
      exact ⟨_, rfl⟩
/-- The text of a mark. -/
def mt (m : Int) : ByteArray := (laws_markText.f 100 m).getD ByteArray.empty
theorem mt_100 (m : Int) (h : m ≤ 9999999) : laws_markText.f 100 m = some (mt m) := by
  have : ∃ r, laws_markText.f 100 m = some r := by
    unfold laws_markText.f
    split
    · exact ⟨_, rfl⟩
    · exact markText_l0 7 100 m _ (by omega) (by omega) (by omega) (by simp [ByteArray.size])
  obtain ⟨r, hr⟩ := this
  unfold mt
  rw [hr]
  rfl
theorem mt_f (m : Int) (h : m ≤ 9999999) (k : Nat) (hk : 100 ≤ k) : laws_markText.f k m = some (mt m) := by
  induction k with
  | zero => omega
  | succ k ih =>
    by_cases hh : k + 1 = 100
    · rw [hh]
      exact mt_100 m h
    · exact laws_markText.mono m k _ (ih (by omega))
/-- The marks of n terms from m on. -/
def tmarks (m : Int) : Nat → List S89
  | 0 => []
  | n + 1 => ⟨mt m, ⟨m + 1, m + 2⟩⟩ :: tmarks (m + 3) n
theorem tmarks_length : ∀ (n : Nat) (m : Int), (tmarks m n).length = n
  | 0, _ => rfl
  | n + 1, m => by simp [tmarks, tmarks_length n]
theorem tmarks_snoc : ∀ (n : Nat) (m : Int), tmarks m (n + 1) = tmarks m n ++ [⟨mt (m + 3 * n), ⟨m + 3 * n + 1, m + 3 * n + 2⟩⟩]
  | 0, m => by simp [tmarks]
  | n + 1, m => by
    rw [tmarks, tmarks_snoc n (m + 3)]
    simp only [tmarks, List.cons_append]
    rw [show m + 3 + 3 * (n : Int) = m + 3 * ((n + 1 : Nat) : Int) by omega]
theorem set_midT (a l : List S89) (i : Nat) (x : S89) (ha : a.length = i) (hi : i < l.length) : (a ++ l.drop i).set i x = (a ++ [x]) ++ l.drop (i + 1) := by
  rw [List.set_append_right _ _ (by omega), List.drop_eq_getElem_cons hi, show i - a.length = 0 by omega, List.set_cons_zero, List.append_assoc]
  rfl
/-- Three cells of a term are written. -/
theorem put_term {w : World} {base g n cap : Nat} {ok : Nat → Prop} {xs : List S89} (h : Kd.R k89 89 w base ok (.slice (some ⟨g, 0, none⟩) n cap) xs) (i : Int) (h0 : 0 ≤ i) (h1 : i < n) (s : ByteArray) (a b : Int) :
    Kd.R k89 89 (((w.setCell ⟨g, i.toNat * 3, none⟩ (.string s)).setCell ⟨g, i.toNat * 3 + 1, none⟩ (.int .i64 a)).setCell ⟨g, i.toNat * 3 + 2, none⟩ (.int .i64 b)) base ok (.slice (some ⟨g, 0, none⟩) n cap) (xs.set i.toNat ⟨s, ⟨a, b⟩⟩) := by
  have hn := (Kd.R_reads' h).1
  obtain ⟨c, hl, hM, hc, hf⟩ := Kd.R_elem h z89 i h0 h1
  have hs := Kd.R_seg h i h0 h1 (seg := [.string s, .int .i64 a, .int .i64 b]) (j := 0) hl hc (show 3 ≤ 3 from Nat.le_refl _) (x' := ⟨s, ⟨a, b⟩⟩) (okp := fun _ => False) (by
    have e : List.take 0 c ++ [Value.string s, Value.int .i64 a, .int .i64 b] ++ List.drop (0 + [Value.string s, Value.int .i64 a, .int .i64 b].length) c = [.string s, .int .i64 a, .int .i64 b] := by
      rw [List.drop_of_length_le (by rw [hl]; exact (show 3 ≤ 3 from Nat.le_refl _))]
      rfl
    rw [e]
    exact k89_mkM _ _ _ ⟨s, ⟨a, b⟩⟩) (fun _ hk => hk.elim)
  exact hs.1

set_option maxHeartbeats 4000000 in
set_option maxRecDepth 100000 in
theorem markTermS_calls (P : Nat → Prop) (v : Value) (l : List S89) (m : Int) (w0 w : World) (hB : Below w0.heap.size w0 w) (ho : Kd.R k89 89 w w0.heap.size P v l) (h0 : 0 ≤ m) (h1 : m ≤ 4000000) (hl : m + 3 * l.length ≤ 9000000) :
    Calls Try.prog 65 #[v, .int .i64 m] w fun e w' => e = .returned (.int .i64 (m + 3 * l.length)) ∧ Kd.R k89 89 w' w0.heap.size P v (tmarks m l.length) ∧ Below w0.heap.size w0 w' ∧ Kept w w' P := by
  obtain ⟨A, c, rfl⟩ := Kd.R_slice ho
  have HS := zA ho
  have HB := zA hB
  clear ho hB
  go_enter Try.func65, Try.ntmps65
  go_wp2
  go_loopg [1, 5] l.length (fun gg u1 u5 wr => ∃ i : Nat, i ≤ l.length ∧ l.length - i ≤ gg ∧ u1 = .int .i64 (m + 3 * i) ∧ u5 = .int .i64 i ∧ Aside0 (Kd.R k89 89 wr w0.heap.size P (.slice A l.length c) (tmarks m i ++ l.drop i)) ∧ Aside0 (Below w0.heap.size w0 wr) ∧ Aside0 (Kept w wr P))
  case atStart => exact ⟨0, Nat.zero_le _, by omega, by simp, rfl, ⟨by simpa [tmarks] using HS.out⟩, HB, ⟨Kept.refl _ _⟩⟩
  case round =>
    obtain ⟨i, hi, hg, rfl, rfl, HSi, HBi, HKi⟩ := hrel
    by_cases hlt : i < l.length
    · have hltz : (i : Int) < (l.length : Int) := by omega
      have hln : (tmarks m i ++ l.drop i).length = l.length := by simp [tmarks_length]; omega
      obtain ⟨g, cap, e1, hg1, hg2, cells, hcells⟩ := Kd.R_form HSi.out (by omega)
      injection e1 with e1 e2 e3
      subst e1 e3
      clear e2
      have HPg := zA (HSi.out.1 g (by simp [Value.ownBlock]))
      have HM := zA (mt_f (m + 3 * i) (by omega) 100 (by omega))
      have p1 : (0 ≤ (i : Int)) = True := eq_true (by omega)
      have p2 : ((i : Int) < (l.length : Int)) = True := eq_true hltz
      clear hcells
      go_wp2_with (go_at_call 123; refine (laws_markText.calls 100 _ _ _ HM.out).mono ?_; rintro e w4 ⟨rfl, hb⟩; have HS4 := zA (Kd.R_below HSi.out hb); have HB4 := zA (below_step HBi.out hb); have HK4 := zA (HKi.out.below hb); obtain ⟨cs, hcs, hcM, hcc, hcf⟩ := Kd.R_elem HS4.out z89 (i : Int) (by omega) hltz; have hcs2 := k89_openM hcM; subst hcs2; have y0 := hcc 0 _ rfl; have y1 := hcc 1 _ rfl; have y2 := hcc 2 _ rfl; rw [Int.toNat_natCast] at y0 y1 y2; replace y0 : w4.cell? ⟨g, i * 3, none⟩ = _ := y0; replace y1 : w4.cell? ⟨g, i * 3 + 1, none⟩ = _ := y1; replace y2 : w4.cell? ⟨g, i * 3 + 1 + 1, none⟩ = _ := y2; obtain ⟨g4, c4, e4, _, _, cells4, hcells4⟩ := Kd.R_form HS4.out (by rw [hln]; omega); injection e4 with e5 e6 e7; injection e5 with e5; injection e5 with e5; subst e5; have fz : ∀ j, w4.frozen? ⟨g, j, none⟩ = false := fun j => blk_frozen hcells4 j; have f0 := fz (i * 3); have f1 := fz (i * 3 + 1); have f2 := fz (i * 3 + 1 + 1); clear hb hcs hcM hcc hcf hcells4 e6 e7 fz)
      go_roundg (l.length - (i + 1))
      case measure => omega
      case rel =>
        have hp := put_term HS4.out (i : Int) (by omega) hltz (mt (m + 3 * i)) (m + 3 * i + 1) (m + 3 * i + 1 + 1)
        rw [Int.toNat_natCast, set_midT _ _ _ _ (tmarks_length _ _) hlt] at hp
        have e9 : tmarks m i ++ [⟨mt (m + 3 * (i : Int)), ⟨m + 3 * (i : Int) + 1, m + 3 * (i : Int) + 1 + 1⟩⟩] = tmarks m (i + 1) := by
          rw [tmarks_snoc, show m + 3 * (i : Int) + 2 = m + 3 * (i : Int) + 1 + 1 by omega]
        rw [e9] at hp
        refine ⟨i + 1, by omega, by omega, by congr 1; omega, by congr 1, ⟨hp⟩, ⟨below_set (below_set (below_set HB4.out hg1) hg1) hg1⟩, ⟨((HK4.out.setCell (.inl HPg.out) _).setCell (.inl HPg.out) _).setCell (.inl HPg.out) _⟩⟩
    · obtain rfl : i = l.length := by omega
      go_wp2
      go_ret
      refine ⟨rfl, ?_, HBi.out, HKi.out⟩
      have := HSi.out
      simpa using this
set_option maxHeartbeats 4000000 in
set_option maxRecDepth 100000 in
theorem markSeries_calls (P : Nat → Prop) (d n : Int) (v : Value) (l : List S89) (m : Int) (w0 w : World) (hB : Below w0.heap.size w0 w) (ho : Kd.R k89 89 w w0.heap.size P v l) (h0 : 0 ≤ m) (h1 : m ≤ 4000000) (hl : m + 3 * l.length ≤ 9000000) :
    Calls Try.prog 24 #[.agg #[.int .i64 d, .int .i64 n, v], .int .i64 m] w fun e w' => e = .returned (.int .i64 (m + 3 * l.length)) ∧ Kd.R k89 89 w' w0.heap.size P v (tmarks m l.length) ∧ Below w0.heap.size w0 w' ∧ Kept w w' P := by
  obtain ⟨A, c, rfl⟩ := Kd.R_slice ho
  have hs := below_size hB
  have hu24 := Try.underlying32
  have HS := zA (Kd.R_alloc ho (.cells #[.int .i64 d, .int .i64 n, .slice A l.length c] 32))
  have HB := zA (below_alloc hB (.cells #[.int .i64 d, .int .i64 n, .slice A l.length c] 32))
  have HK := zA ((Kept.refl w P).alloc (.cells #[.int .i64 d, .int .i64 n, .slice A l.length c] 32))
  clear ho hB hs
  go_enter Try.func24, Try.ntmps24
  go_wp2_with (go_at_call 65; refine (markTermS_calls P _ l m w0 _ HB.out HS.out h0 h1 hl).mono ?_; rintro e w4 ⟨rfl, hR, hb, hk⟩; have HR := zA hR; have HB4 := zA hb; have HK4 := zA (HK.out.then_ hk (fun k hk => .inl hk)); clear hR hb hk)
  go_ret
  exact ⟨rfl, HR.out, HB4.out, HK4.out⟩
end Go.Proofs.Ytcklefgkbddlhaa.Tab
