/- Plain lemmas and contracts of this session, of which the parts' own heads tell. -/
import Derived.Test.YtcklefgkbddlhaaPx4
import Derived.Test.YtcklefgkbddlhaaPx18
import Derived.Test.YtcklefgkbddlhaaBaseTablesM
/- Plain lemmas on what the printed functions over lists of whole numbers compute. -/
namespace Go.Proofs.Ytcklefgkbddlhaa.Pure
open Go.RowKit Go.Proofs.Ytcklefgkbddlhaa.P Go.Proofs.YtcklefgkbddlhaaW.PrintWords Go.Proofs.YtcklefgkbddlhaaW.PrintLast
set_option linter.unusedVariables false
set_option linter.unusedSimpArgs false

/-- The marks from m on, n of them. -/
def marks (m : Int) : Nat → List Int
  | 0 => []
  | n + 1 => m :: marks (m + 1) n
theorem marks_length (n : Nat) : ∀ m, (marks m n).length = n := by
  induction n with
  | zero => intro m; rfl
  | succ n ih => intro m; simp [marks, ih]
theorem markInt64S_l0 : ∀ d k i (x : List Int) (m : Int), i + d = x.length → x.length ≤ 4000000 → d < k → 0 ≤ m → m ≤ 1000000000 → laws_markInt64S.l0 k x (m + i) (i : Int) = some (m + x.length, x.take i ++ marks (m + i) d) := by
  intro d
  induction d with
  | zero =>
    intro k i x m h hl hk h0 h1
    obtain ⟨k, rfl⟩ : ∃ m, k = m + 1 := ⟨k - 1, by omega⟩
    simp only [laws_markInt64S.l0]
    rw [if_neg (by omega), List.take_of_length_le (by omega)]
    simp only [marks, List.append_nil]
    rw [show i = x.length by omega]
  | succ d ih =>
    intro k i x m h hl hk h0 h1
    obtain ⟨k, rfl⟩ : ∃ m, k = m + 1 := ⟨k - 1, by omega⟩
    simp only [laws_markInt64S.l0]
    rw [if_pos (by omega), if_pos (by omega), wrap_nat _ (by omega), wrap_of (m + i + 1) (by omega) (by omega), show m + (i : Int) + 1 = m + ((i + 1 : Nat) : Int) by omega, Int.toNat_natCast]
    rw [ih k (i + 1) (x.set i (m + i)) m (by simp; omega) (by simpa using hl) (by omega) h0 h1, take_set x i _ (by omega), List.length_set, List.append_assoc]
    simp only [marks, List.singleton_append]
    rw [show m + (i : Int) + 1 = m + ((i + 1 : Nat) : Int) by omega]
theorem markInt64S_f (k : Nat) (x : List Int) (m : Int) (hl : x.length ≤ 4000000) (hk : x.length < k) (h0 : 0 ≤ m) (h1 : m ≤ 1000000000) : laws_markInt64S.f k x m = some (m + x.length, marks m x.length) := by
  unfold laws_markInt64S.f
  have := markInt64S_l0 x.length k 0 x m (by omega) hl hk h0 h1
  simpa using this
end Go.Proofs.Ytcklefgkbddlhaa.Pure
/- laws.markInt64SS: what a call of it comes to at rows that are apart. -/
namespace Go.Proofs.Ytcklefgkbddlhaa.Nest
open Go.RowKit Go.Proofs.Ytcklefgkbddlhaa.P Go.Proofs.Ytcklefgkbddlhaa.Pure Go.Proofs.YtcklefgkbddlhaaW.PrintWords Go.Proofs.YtcklefgkbddlhaaW.PrintLast Go.Proofs.YtcklefgkbddlhaaW.PrintMore
set_option linter.unusedVariables false
set_option linter.unusedSimpArgs false

/-- How many numbers rows hold. -/
def total : List (List Int) → Nat
  | [] => 0
  | r :: l => r.length + total l
/-- The marks of rows from m on. -/
def marks2 (m : Int) : List (List Int) → List (List Int)
  | [] => []
  | r :: l => marks m r.length :: marks2 (m + r.length) l
theorem total_append (a b : List (List Int)) : total (a ++ b) = total a + total b := by
  induction a with
  | nil => simp [total]
  | cons r a ih => simp only [List.cons_append, total, ih]; omega
theorem marks2_length (l : List (List Int)) : ∀ m, (marks2 m l).length = l.length := by
  induction l with
  | nil => intro m; rfl
  | cons r l ih => intro m; simp [marks2, ih]
theorem marks2_append (a b : List (List Int)) : ∀ m, marks2 m (a ++ b) = marks2 m a ++ marks2 (m + total a) b := by
  induction a with
  | nil => intro m; simp [marks2, total]
  | cons r a ih => intro m; simp only [List.cons_append, marks2, ih, total]; rw [show m + (r.length : Int) + (total a : Int) = m + ((r.length + total a : Nat) : Int) by omega]
theorem marks2_snoc (m : Int) (a : List (List Int)) (r : List Int) : marks2 m (a ++ [r]) = marks2 m a ++ [marks (m + total a) r.length] := by
  rw [marks2_append]; rfl
theorem take_total_le (l : List (List Int)) (i : Nat) : total (l.take i) ≤ total l := by
  have := total_append (l.take i) (l.drop i)
  rw [List.take_append_drop] at this
  omega
theorem total_take_succ (l : List (List Int)) (i : Nat) (h : i < l.length) : total (l.take (i + 1)) = total (l.take i) + l[i].length := by
  rw [List.take_succ_eq_append_getElem h, total_append]
  simp [total]

theorem set_mid (a l : List (List Int)) (i : Nat) (x : List Int) (ha : a.length = i) (hi : i < l.length) : (a ++ l.drop i).set i x = (a ++ [x]) ++ l.drop (i + 1) := by
  rw [List.set_append_right _ _ (by omega), List.drop_eq_getElem_cons hi, show i - a.length = 0 by omega, List.set_cons_zero, List.append_assoc]
  rfl

set_option maxHeartbeats 4000000 in
set_option maxRecDepth 10000 in
theorem markInt64SS_calls (P : Nat → Prop) (v : Value) (l : List (List Int)) (m : Int) (w0 w : World) (hB : Below w0.heap.size w0 w) (ho : Kd.S (Kd.slice 2 (Kd.int .i64)) 48 w w0.heap.size P v l) (h0 : 0 ≤ m) (h1 : m ≤ 4000000) (hl : l.length ≤ 4000000) (ht : total l ≤ 4000000) :
    Calls Try.prog 50 #[v, .int .i64 m] w fun e w' => e = .returned (.int .i64 (m + total l)) ∧ Kd.S (Kd.slice 2 (Kd.int .i64)) 48 w' w0.heap.size P v (marks2 m l) ∧ Below w0.heap.size w0 w' ∧ Kept w w' P := by
  obtain ⟨A, c, rfl, hc⟩ := Kd.S_reads ho

  have HS := Aside0.mk ho
  have HB := Aside0.mk hB
  have HT := Aside0.mk ht
  clear ho hB hc ht
  go_enter Try.func50, Try.ntmps50
  go_wp2
  go_loopg [1, 5] l.length (fun gg u1 u5 wr => ∃ i : Nat, i ≤ l.length ∧ l.length - i ≤ gg ∧ u1 = .int .i64 (m + total (l.take i)) ∧ u5 = .int .i64 i ∧ Aside0 (Kd.S (Kd.slice 2 (Kd.int .i64)) 48 wr w0.heap.size P (.slice A l.length c) (marks2 m (l.take i) ++ l.drop i)) ∧ Aside0 (Below w0.heap.size w0 wr) ∧ Aside0 (Kept w wr P))
  case atStart => exact ⟨0, Nat.zero_le _, by omega, by simp [total], rfl, ⟨by simpa [marks2] using HS.out⟩, HB, ⟨Kept.refl _ _⟩⟩
  case round =>
    obtain ⟨i, hi, hg, rfl, rfl, HSi, HBi, HKi⟩ := hrel
    by_cases hlt : i < l.length
    · have hltz : (i : Int) < (l.length : Int) := by omega
      have hln : (marks2 m (l.take i) ++ l.drop i).length = l.length := by simp [marks2_length]; omega
      have hpos := Kd.R_form (Kd.S_R HSi.out) (by omega)
      obtain ⟨g, cap, e1, hg1, hg2, cells, hcells⟩ := hpos
      injection e1 with e1 e2 e3
      subst e1 e3
      clear e2
      obtain ⟨oki, cs, hcs, hM, hcell, hoki, hH⟩ := Kd.S_lend HSi.out ([] : List Int) (i : Int) (by omega) (by omega)
      have hget : (marks2 m (l.take i) ++ l.drop i).getD (i : Int).toNat ([] : List Int) = l[i] := by
        rw [Int.toNat_natCast, List.getD_eq_getElem?_getD, List.getElem?_append_right (by simp [marks2_length]; omega)]
        simp [marks2_length, Nat.min_eq_left hi, show i < l.length by omega]
      rw [hget] at hM
      obtain ⟨v', rfl, hR⟩ := hM
      have hcellv := hcell 0 v' rfl
      obtain ⟨A', c', rfl, hcc', hCC⟩ := Kd.R_reads hR
      have hcell0 : wr.cell? ⟨g, i, none⟩ = some (.slice A' l[i].length c') := by
        have : (i : Int).toNat * (Kd.slice 2 (Kd.int .i64)).sz + 0 = i := by show (i : Int).toNat * 1 + 0 = i; omega
        rw [this] at hcellv; exact hcellv
      have hr1 := total_take_succ l i hlt
      have hr2 := take_total_le l (i + 1)
      have hT := HT.out
      have HMk := Aside0.mk (markInt64S_f (l[i].length + 1) l[i] (m + total (l.take i)) (by omega) (by omega) (by omega) (by omega))
      have HH := Aside0.mk hH
      have HR := Aside0.mk hR
      have HO := Aside0.mk hoki
      have e4 : m + (total (l.take i) : Int) + (l[i].length : Int) = m + (total (l.take (i + 1)) : Int) := by omega
      have E4 := Aside0.mk e4
      have HE := Aside0.mk hr1
      have HLN := Aside0.mk hln
      clear hH hR hcell hcellv hoki hget hCC hcells hr1 e4 hT hr2 hcs hln hcc'
      generalize hrow : l[i] = row at *
      have HROW := Aside0.mk hrow
      clear hrow
      go_wp2_with (go_at_call 34; refine (laws_markInt64S.calls (row.length + 1) oki (.slice A' row.length c') row (m + total (l.take i)) _ _ w0 _ HBi.out HR.out HMk.out).mono ?_; rw [E4.out]; rintro e w' ⟨rfl, hR', hB', hK'⟩)
      go_roundg (l.length - (i + 1))
      case measure => omega
      case rel =>
        refine ⟨i + 1, by omega, by omega, rfl, by go_num, ⟨?_⟩, ⟨hB'⟩, ⟨HKi.out.then_ hK' (fun k hk => .inl (HO.out k hk).1)⟩⟩
        have h2 := Kd.H_back (Kd.H_kept HH.out hK' (fun k _ hn => hn)) (okp := fun k => some k = (Value.slice A' row.length c').ownBlock) (x' := marks (m + total (l.take i)) row.length) ⟨_, rfl, Kd.R_tight rfl hR'⟩ (fun k hk => HR.out.1 k hk.symm)
        have e5 : (marks2 m (l.take i) ++ l.drop i).set (i : Int).toNat (marks (m + total (l.take i)) row.length) = marks2 m (l.take (i + 1)) ++ l.drop (i + 1) := by
          rw [Int.toNat_natCast, set_mid _ _ _ _ (by rw [marks2_length, List.length_take]; omega) hlt, List.take_succ_eq_append_getElem hlt, HROW.out, marks2_snoc]
        rw [e5] at h2
        exact h2
    · have hltz : ¬ (i : Int) < (l.length : Int) := by omega
      have hii : i = l.length := by omega
      subst hii
      go_wp2
      go_ret
      refine ⟨?_, ?_, HBi.out, HKi.out⟩
      · simp
      · have := HSi.out
        simpa using this
end Go.Proofs.Ytcklefgkbddlhaa.Nest
