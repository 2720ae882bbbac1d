/- Plain lemmas: the value of a series at tables, as the reference reckons it. -/
import Derived.Test.YtcklefgkbddlhaaPx6
import Derived.Test.YtcklefgkbddlhaaBaseVal
namespace Go.Proofs.Ytcklefgkbddlhaa.Pure
open Go.RowKit Go.Proofs.Ytcklefgkbddlhaa.P Go.Proofs.YtcklefgkbddlhaaW.PrintWords Go.Proofs.YtcklefgkbddlhaaW.PrintLast
set_option linter.unusedVariables false
set_option linter.unusedSimpArgs false

section
variable {n : Nat} {T1 : List (List (List Int))} {l : List S89} {a0 a1 : Int} {R : List (List S27) × Bool}
theorem s_l4 (hn : n ≤ 6) (m : Nat) (hm : m < l.length) (f : Nat → Nat → Int) (hf : big n f) (v : S27) (hv0 : (rd_T89 l (m : Int)).f1 = v) (hv : okF2 v) (i : Nat) (hi : i < n) :
    ∀ e j G, j + e = n → okG n G → (match colsV v f i e j G with | none => R = ([], false) | some G' => okG n G' → Ev (fun k => spec_l08Value.l3 k T1 (n : Int) (matS n G') (m : Int) (mat n f) ((i + 1 : Nat) : Int) a0 a1 l) R) →
    Ev (fun k => spec_l08Value.l4 k T1 (n : Int) (matS n G) (m : Int) (mat n f) (i : Int) (j : Int) a0 a1 l) R
  | 0, j, G, hj, hG, h => by
    refine Ev.step (fun k => ?_) (h hG)
    simp only [spec_l08Value.l4]
    rw [if_neg (by omega), wrap_nat _ (by omega)]
  | e + 1, j, G, hj, hG, h => by
    have c1 : ((j : Int) < (n : Int)) = True := eq_true (by omega)
    have c2 : ((m : Int) < (l.length : Int)) = True := eq_true (by omega)
    have c3 : ((i : Int) < (n : Int)) = True := eq_true (by omega)
    have c4 : (0 ≤ (j : Int)) = True := eq_true (by omega)
    have c5 : (0 ≤ (i : Int)) = True := eq_true (by omega)
    have c6 : (0 ≤ (m : Int)) = True := eq_true (by omega)
    have hw := ok_whole (f i j) (hf i j hi (by omega))
    refine Ev.step (f := fun k => (spec_l01TimesFrac.f k v.f0 v.f1 (f i j) 1).bind fun bt205 => ((spec_l01Plus.f k (G i j).f0 (G i j).f1 bt205.1 bt205.2.1).bind fun bt211 => (if bt205.2.2 = true then (if bt211.2.2 = true then (spec_l08Value.l4 k T1 (n : Int) (matS n (putG G i j ⟨bt211.1, bt211.2.1⟩)) (m : Int) (mat n f) (i : Int) ((j + 1 : Nat) : Int) a0 a1 l) else (some (([] : List (List S27)), false))) else (some (([] : List (List S27)), false))))) (fun k => ?_) ?_
    · simp only [spec_l08Value.l4, rdR_mat n f i hi, rdF_mat n G i hi, tab_length, mat_length, matS_length, rd_tab n (f i) j (by omega), rdS_tab n (G i) j (by omega), c1, c2, c3, c4, c5, c6, if_true, Int.toNat_natCast, spec_l02One.f, Option.bind_some, hv0, wrap_nat j (by omega), matS_set]
    · generalize hT : timesF v ⟨f i j, 1⟩ = T
      have ht := spec_times_f v ⟨f i j, 1⟩ hv hw
      rw [hT] at ht
      unfold colsV addE at h
      rw [hT] at h
      refine Ev.bind (f := fun k bt205 => ((spec_l01Plus.f k (G i j).f0 (G i j).f1 bt205.1 bt205.2.1).bind fun bt211 => (if bt205.2.2 = true then (if bt211.2.2 = true then (spec_l08Value.l4 k T1 (n : Int) (matS n (putG G i j ⟨bt211.1, bt211.2.1⟩)) (m : Int) (mat n f) (i : Int) ((j + 1 : Nat) : Int) a0 a1 l) else (some (([] : List (List S27)), false))) else (some (([] : List (List S27)), false))))) ht ?_
      by_cases f1 : fitF T.f0 T.f1 = true
      · rw [if_pos f1] at h
        rw [if_pos f1]
        have hp := spec_plus_f (G i j) T (hG i j hi (by omega)) f1
        by_cases f2 : fitF (plusF (G i j) T).f0 (plusF (G i j) T).f1 = true
        · rw [if_pos f2] at h hp
          refine Ev.bind (f := fun k bt211 => (if true = true then (if bt211.2.2 = true then (spec_l08Value.l4 k T1 (n : Int) (matS n (putG G i j ⟨bt211.1, bt211.2.1⟩)) (m : Int) (mat n f) (i : Int) ((j + 1 : Nat) : Int) a0 a1 l) else (some (([] : List (List S27)), false))) else (some (([] : List (List S27)), false)))) hp ?_
          exact s_l4 hn m hm f hf v hv0 hv i hi e (j + 1) _ (by omega) (okG_put hG i j f2) h
        · rw [if_neg f2] at h hp
          subst h
          refine Ev.bind (f := fun k bt211 => (if true = true then (if bt211.2.2 = true then (spec_l08Value.l4 k T1 (n : Int) (matS n (putG G i j ⟨bt211.1, bt211.2.1⟩)) (m : Int) (mat n f) (i : Int) ((j + 1 : Nat) : Int) a0 a1 l) else (some (([] : List (List S27)), false))) else (some (([] : List (List S27)), false)))) hp ?_
          exact Ev.now _
      · rw [if_neg f1] at h
        rw [if_neg f1]
        subst h
        refine Ev.bind (f := fun k bt211 => (if false = true then (if bt211.2.2 = true then (spec_l08Value.l4 k T1 (n : Int) (matS n (putG G i j ⟨bt211.1, bt211.2.1⟩)) (m : Int) (mat n f) (i : Int) ((j + 1 : Nat) : Int) a0 a1 l) else (some (([] : List (List S27)), false))) else (some (([] : List (List S27)), false)))) (spec_plus_0 (G i j).f0 (G i j).f1) ?_
        exact Ev.now _
theorem s_l3 (hn : n ≤ 6) (m : Nat) (hm : m < l.length) (hl : l.length ≤ 1048576) (f : Nat → Nat → Int) (hf : big n f) (v : S27) (hv0 : (rd_T89 l (m : Int)).f1 = v) (hv : okF2 v) :
    ∀ e i G, i + e = n → okG n G → (match rowsV v f n e i G with | none => R = ([], false) | some G' => okG n G' → Ev (fun k => spec_l08Value.l2 k T1 (n : Int) (matS n G') ((m + 1 : Nat) : Int) a0 a1 l) R) →
    Ev (fun k => spec_l08Value.l3 k T1 (n : Int) (matS n G) (m : Int) (mat n f) (i : Int) a0 a1 l) R
  | 0, i, G, hi, hG, h => by
    refine Ev.step (fun k => ?_) (h hG)
    simp only [spec_l08Value.l3]
    rw [if_neg (by omega), wrap_nat _ (by omega)]
  | e + 1, i, G, hi, hG, h => by
    refine Ev.step (f := fun k => spec_l08Value.l4 k T1 (n : Int) (matS n G) (m : Int) (mat n f) (i : Int) ((0 : Nat) : Int) a0 a1 l) (fun k => ?_) ?_
    · simp only [spec_l08Value.l3]
      rw [if_pos (by omega), if_pos (by omega), if_pos (by rw [matS_length]; omega)]
      rfl
    · refine s_l4 hn m hm f hf v hv0 hv i (by omega) n 0 G (by omega) hG ?_
      unfold rowsV at h
      cases hc : colsV v f i n 0 G with
      | none => rw [hc] at h; exact h
      | some G' =>
        rw [hc] at h
        intro hG'
        exact s_l3 hn m hm hl f hf v hv0 hv e (i + 1) G' (by omega) hG' h
theorem s_l2 (hn : n ≤ 6) (hl : l.length ≤ 1048576) {F : Nat → Nat → Nat → Int} (T : Tabs n T1 F) (h0 : 0 < T1.length) (hw : ∀ t ∈ l, okW T1.length t.f0 ∧ t.f0.size ≤ 1000 ∧ okF2 t.f1) :
    ∀ e m G, m + e = l.length → okG n G → (match termsV n (fun w => prodR n F w w.size 0 eye) (l.drop m) G with | none => R = ([], false) | some G' => R = (matS n G', true)) →
    Ev (fun k => spec_l08Value.l2 k T1 (n : Int) (matS n G) (m : Int) a0 a1 l) R
  | 0, m, G, hm, hG, h => by
    rw [List.drop_of_length_le (by omega)] at h
    simp only [termsV] at h
    subst h
    refine Ev.step (f := fun _ => some (matS n G, true)) (fun k => ?_) (Ev.now _)
    simp only [spec_l08Value.l2]
    rw [if_neg (by omega)]
  | e + 1, m, G, hm, hG, h => by
    have hml : m < l.length := by omega
    have hr : rd_T89 l (m : Int) = l[m] := by simp [rd_T89, List.getD_eq_getElem?_getD, hml]
    obtain ⟨t1, t2, t3⟩ := hw l[m] (List.getElem_mem hml)
    rw [List.drop_eq_getElem_cons hml] at h
    unfold termsV at h
    have hp : Ev (fun k => spec_l08Product.f k T1 (rd_T89 l (m : Int)).f0) (prodR n F l[m].f0 l[m].f0.size 0 eye) := ⟨1500, fun k hk => by rw [hr]; exact spec_product_f T h0 _ t1 (by omega) k (by omega)⟩
    refine Ev.step (f := fun k => (spec_l08Product.f k T1 (rd_T89 l (m : Int)).f0).bind fun bt196 => (if bt196.2 = true then (spec_l08Value.l3 k T1 (n : Int) (matS n G) (m : Int) bt196.1 0 a0 a1 l) else (some (([] : List (List S27)), false)))) (fun k => ?_) ?_
    · simp only [spec_l08Value.l2]
      rw [if_pos (by omega), if_pos (by omega)]
    · refine Ev.bind (f := fun k bt196 => (if bt196.2 = true then (spec_l08Value.l3 k T1 (n : Int) (matS n G) (m : Int) bt196.1 0 a0 a1 l) else (some (([] : List (List S27)), false)))) hp ?_
      rcases prodR_big n F l[m].f0 l[m].f0.size 0 eye (eye_big n) with ⟨g, hg, e1⟩ | e1
      · rw [e1] at h ⊢
        rw [if_pos rfl] at h
        refine Ev.congr (fun k => if_pos rfl) ?_
        rw [← ent_mat n g]
        refine s_l3 hn m hml hl (ent (mat n g)) (fun i j hi hj => by rw [ent_at n g i j hi hj]; exact hg i j hi hj) l[m].f1 (by rw [hr]) t3 n 0 G (by omega) hG ?_
        dsimp only at h
        cases hc : rowsV l[m].f1 (ent (mat n g)) n n 0 G with
        | none => rw [hc] at h; exact h
        | some G' =>
          rw [hc] at h
          intro hG'
          exact s_l2 hn hl T h0 hw e (m + 1) G' (by omega) hG' h
      · rw [e1] at h ⊢
        rw [if_neg (by simp)] at h
        dsimp only at h
        subst h
        exact Ev.congr (fun k => if_neg (by simp)) (Ev.now _)
/-- Rows of zeros. -/
def zG : Nat → Nat → S27 := fun _ _ => ⟨0, 1⟩
theorem okG_z (n : Nat) : okG n zG := fun _ _ _ _ => ok01
theorem z_l1 (hn : n ≤ 6) (i : Nat) (hi : i < n) (x7 : List (List S27)) (h7 : x7.length ≤ 6) : ∀ e j, j + e = n → Ev (fun k => spec_l08Value.l0 k T1 (n : Int) (x7 ++ [tab n fun _ => ⟨0, 1⟩]) ((i + 1 : Nat) : Int) a0 a1 l) R →
    Ev (fun k => spec_l08Value.l1 k T1 (n : Int) x7 (i : Int) (tab j fun _ => ⟨0, 1⟩) (j : Int) a0 a1 l) R
  | 0, j, hj, h => by
    obtain rfl : j = n := by omega
    refine Ev.step (fun k => ?_) h
    simp only [spec_l08Value.l1]
    rw [if_neg (by omega), if_pos (by omega), wrap_nat _ (by omega)]
  | e + 1, j, hj, h => by
    have ih := z_l1 hn i hi x7 h7 e (j + 1) (by omega) h
    refine Ev.step (fun k => ?_) ih
    simp only [spec_l08Value.l1]
    rw [if_pos (by omega)]
    unfold spec_l02One.f
    rw [Option.bind_some, if_pos (by rw [tab_length]; omega), wrap_nat _ (by omega), tab_succ]
theorem z_l0 (hn : n ≤ 6) : ∀ e i, i + e = n → Ev (fun k => spec_l08Value.l2 k T1 (n : Int) (matS n zG) ((0 : Nat) : Int) a0 a1 l) R →
    Ev (fun k => spec_l08Value.l0 k T1 (n : Int) (tab i fun _ => tab n fun _ => ⟨0, 1⟩) (i : Int) a0 a1 l) R
  | 0, i, hi, h => by
    obtain rfl : i = n := by omega
    refine Ev.step (fun k => ?_) h
    simp only [spec_l08Value.l0]
    rw [if_neg (by omega)]
    rfl
  | e + 1, i, hi, h => by
    have ih := z_l0 hn e (i + 1) (by omega) h
    refine Ev.step (f := fun k => spec_l08Value.l1 k T1 (n : Int) (tab i fun _ => tab n fun _ => ⟨0, 1⟩) (i : Int) (tab 0 fun _ => ⟨0, 1⟩) ((0 : Nat) : Int) a0 a1 l) (fun k => ?_) ?_
    · simp only [spec_l08Value.l0]
      rw [if_pos (by omega)]
      rfl
    · refine z_l1 hn i (by omega) _ (by rw [tab_length]; omega) n 0 (by omega) ?_
      rw [tab_succ] at ih
      exact ih
theorem spec_value_f (h1 : 1 ≤ n) (hn : n ≤ 6) (hl : l.length ≤ 1048576) {F : Nat → Nat → Nat → Int} (T : Tabs n T1 F) (h0 : 0 < T1.length) (hw : ∀ t ∈ l, okW T1.length t.f0 ∧ t.f0.size ≤ 1000 ∧ okF2 t.f1) :
    Ev (fun k => spec_l08Value.f k a0 a1 l T1) (match termsV n (fun w => prodR n F w w.size 0 eye) l zG with | none => ([], false) | some G' => (matS n G', true)) := by
  refine Ev.congr (fun k => ?_) (z_l0 (a0 := a0) (a1 := a1) hn n 0 (by omega) (s_l2 hn hl T h0 hw l.length 0 zG (by omega) (okG_z n) (by rw [List.drop_zero]; split <;> rfl)))
  unfold spec_l08Value.f
  rw [if_pos (by omega), first_len T h0, mat_length]
  rfl
end
end Go.Proofs.Ytcklefgkbddlhaa.Pure
