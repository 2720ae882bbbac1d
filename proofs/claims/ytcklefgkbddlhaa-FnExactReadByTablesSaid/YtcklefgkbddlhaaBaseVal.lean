/- Plain lemmas: the value of a series at tables: what one term does to the matrix of sums. -/
import Derived.Test.YtcklefgkbddlhaaBaseFrV
import Derived.Test.YtcklefgkbddlhaaBaseProdV
namespace Go.Proofs.Ytcklefgkbddlhaa.Pure
open Go.RowKit Go.Proofs.Ytcklefgkbddlhaa.P Go.Proofs.YtcklefgkbddlhaaW.PrintWords Go.Proofs.YtcklefgkbddlhaaW.PrintLast
set_option linter.unusedVariables false
set_option linter.unusedSimpArgs false

/-- A matrix of fractions by its entries. -/
def matS (n : Nat) (G : Nat → Nat → S27) : List (List S27) := tab n fun i => tab n (G i)
def okG (n : Nat) (G : Nat → Nat → S27) : Prop := ∀ i j, i < n → j < n → okF2 (G i j)
theorem matS_length (n : Nat) (G : Nat → Nat → S27) : (matS n G).length = n := tab_length _ _
theorem rdS_tab (n : Nat) (g : Nat → S27) (i : Nat) (h : i < n) : rd_T27 (tab n g) (i : Int) = g i := by
  unfold rd_T27
  rw [Int.toNat_natCast, List.getD_eq_getElem?_getD, List.getElem?_eq_getElem (by rw [tab_length]; exact h)]
  exact tab_get n g i _
theorem rdF_mat (n : Nat) (G : Nat → Nat → S27) (i : Nat) (h : i < n) : rd_L8 (matS n G) (i : Int) = tab n (G i) := by
  unfold rd_L8 matS
  rw [Int.toNat_natCast, List.getD_eq_getElem?_getD, List.getElem?_eq_getElem (by rw [tab_length]; exact h)]
  exact tab_get n (fun i => tab n (G i)) i _
/-- One entry more. -/
def putG (G : Nat → Nat → S27) (i j : Nat) (v : S27) : Nat → Nat → S27 := fun p q => if p = i ∧ q = j then v else G p q
theorem matS_set (n : Nat) (G : Nat → Nat → S27) (i j : Nat) (v : S27) : (matS n G).set i ((tab n (G i)).set j v) = matS n (putG G i j v) := by
  unfold matS
  rw [tab_set, tab_set]
  refine tab_congr fun p _ => ?_
  by_cases e : p = i
  · subst e
    rw [if_pos rfl]
    refine tab_congr fun q _ => ?_
    unfold putG
    by_cases e2 : q = j
    · rw [if_pos e2, if_pos ⟨rfl, e2⟩]
    · rw [if_neg e2, if_neg (fun h => e2 h.2)]
  · rw [if_neg e]
    refine tab_congr fun q _ => ?_
    unfold putG
    rw [if_neg (fun h => e h.1)]
theorem okG_put {n : Nat} {G : Nat → Nat → S27} (h : okG n G) (i j : Nat) {v : S27} (hv : okF2 v) : okG n (putG G i j v) := fun p q hp hq => by
  unfold putG
  split
  · exact hv
  · exact h p q hp hq
theorem ok_whole (n : Int) (h : -1000000000 ≤ n ∧ n ≤ 1000000000) : okF2 (⟨n, 1⟩ : S27) := by
  unfold okF2 fitF
  simp only [Bool.and_eq_true, decide_eq_true_eq]
  exact ⟨⟨by decide, by decide⟩, h, by simp⟩
/-- What a term adds at an entry. -/
def addE (v : S27) (f : Nat → Nat → Int) (G : Nat → Nat → S27) (i j : Nat) : S27 := plusF (G i j) (timesF v ⟨f i j, 1⟩)
/-- A term, along a row from a column on. -/
def colsV (v : S27) (f : Nat → Nat → Int) (i : Nat) : Nat → Nat → (Nat → Nat → S27) → Option (Nat → Nat → S27)
  | 0, _, G => some G
  | e + 1, j, G => if fitF (timesF v ⟨f i j, 1⟩).f0 (timesF v ⟨f i j, 1⟩).f1 = true then (if fitF (addE v f G i j).f0 (addE v f G i j).f1 = true then colsV v f i e (j + 1) (putG G i j (addE v f G i j)) else none) else none
/-- A term, from a row on. -/
def rowsV (v : S27) (f : Nat → Nat → Int) (n : Nat) : Nat → Nat → (Nat → Nat → S27) → Option (Nat → Nat → S27)
  | 0, _, G => some G
  | e + 1, i, G => match colsV v f i n 0 G with
    | none => none
    | some G' => rowsV v f n e (i + 1) G'
/-- The terms from one on. -/
def termsV (n : Nat) (P : ByteArray → List (List Int) × Bool) : List S89 → (Nat → Nat → S27) → Option (Nat → Nat → S27)
  | [], G => some G
  | t :: ts, G => if (P t.f0).2 = true then (match rowsV t.f1 (ent (P t.f0).1) n n 0 G with
    | none => none
    | some G' => termsV n P ts G') else none
theorem tab_getD {α : Type} (n : Nat) (g : Nat → α) (i : Nat) (d : α) (h : i < n) : (tab n g).getD i d = g i := by
  rw [List.getD_eq_getElem?_getD, List.getElem?_eq_getElem (by rw [tab_length]; exact h), tab_get]
  rfl
theorem ent_at (n : Nat) (g : Nat → Nat → Int) (i j : Nat) (hi : i < n) (hj : j < n) : ent (mat n g) i j = g i j := by
  unfold ent mat
  rw [tab_getD n (fun i => tab n (g i)) i _ hi, tab_getD n (g i) j _ hj]
theorem ent_mat (n : Nat) (g : Nat → Nat → Int) : mat n (ent (mat n g)) = mat n g := by
  unfold mat
  exact tab_congr fun i hi => tab_congr fun j hj => ent_at n g i j hi hj
theorem prodR_big (n : Nat) (F : Nat → Nat → Nat → Int) (w : ByteArray) : ∀ e i f, big n f → (∃ g, big n g ∧ prodR n F w e i f = (mat n g, true)) ∨ prodR n F w e i f = (([] : List (List Int)), false) := by
  intro e
  induction e with
  | zero => exact fun i f hf => .inl ⟨f, hf, by rw [prodR]⟩
  | succ e ih =>
    intro i f hf
    rw [prodR]
    by_cases h : okM n (pm n f (F (ltr w i))) = true
    · rw [if_pos h]
      exact ih (i + 1) _ (okM_big h)
    · rw [if_neg h]
      exact .inr rfl
end Go.Proofs.Ytcklefgkbddlhaa.Pure
