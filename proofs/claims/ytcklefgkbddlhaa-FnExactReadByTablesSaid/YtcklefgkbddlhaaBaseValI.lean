/- Plain lemmas: the value of a series at tables, as the program reckons it. -/
import Derived.Test.YtcklefgkbddlhaaPx11
import Derived.Test.YtcklefgkbddlhaaPx16
import Derived.Test.YtcklefgkbddlhaaBaseValS
namespace Go.Proofs.Ytcklefgkbddlhaa.Pure
open Go.RowKit Go.Proofs.Ytcklefgkbddlhaa.P Go.Proofs.YtcklefgkbddlhaaW.PrintWords Go.Proofs.YtcklefgkbddlhaaW.PrintLast
set_option linter.unusedVariables false
set_option linter.unusedSimpArgs false

theorem fractions_l0 (n : Nat) (h1 : 1 ≤ n) (hn : n ≤ 6) : ∀ e i (D : List (List S27)), i + e = n → D.length = i →
    Ev (fun k => impl_fractions.l0 k (n : Int) (D ++ List.replicate e []) (n : Int) (i : Int)) (D ++ List.replicate e (List.replicate n ⟨0, 1⟩))
  | 0, i, D, hi, hD => by
    refine Ev.step (f := fun _ => some D) (fun k => ?_) (by simpa using Ev.now D)
    simp only [impl_fractions.l0]
    rw [if_neg (by omega)]
    simp
  | e + 1, i, D, hi, hD => by
    have ih := fractions_l0 n h1 hn e (i + 1) (D ++ [List.replicate n ⟨0, 1⟩]) (by omega) (by simp [hD])
    have e0 : (D ++ [List.replicate n (⟨0, 1⟩ : S27)]) ++ List.replicate e (List.replicate n ⟨0, 1⟩) = D ++ List.replicate (e + 1) (List.replicate n ⟨0, 1⟩) := by
      rw [List.append_assoc, List.replicate_succ]; rfl
    rw [e0] at ih
    refine Ev.step (fun k => ?_) ih
    simp only [impl_fractions.l0]
    have e1 : impl_Fraction.f ([(⟨0, 1⟩ : S27)]) (n : Int) = some (List.replicate n ⟨0, 1⟩) := by
      unfold impl_Fraction.f
      rw [if_pos ⟨rfl, by omega, by omega⟩, Int.toNat_natCast]
      rfl
    have e2 : (D ++ List.replicate (e + 1) ([] : List S27)).set i (List.replicate n ⟨0, 1⟩) = (D ++ [List.replicate n ⟨0, 1⟩]) ++ List.replicate e [] := by
      rw [List.set_append_right _ _ (by omega), show i - D.length = 0 by omega, List.replicate_succ, List.set_cons_zero, List.append_assoc]
      rfl
    rw [if_pos (by omega)]
    unfold impl_zero.f
    rw [Option.bind_some]
    dsimp only
    rw [e1, Option.bind_some, if_pos (by omega), if_pos (by simp; omega), Int.toNat_natCast, wrap_nat _ (by omega), e2]
theorem fractions_f (n : Nat) (h1 : 1 ≤ n) (hn : n ≤ 6) : Ev (fun k => impl_fractions.f k (n : Int)) (List.replicate n (List.replicate n ⟨0, 1⟩)) := by
  have h := fractions_l0 n h1 hn n 0 [] (by omega) rfl
  simp only [List.nil_append] at h
  refine Ev.congr (fun k => ?_) h
  unfold impl_fractions.f
  rw [if_pos (by omega), if_pos (by omega), Option.bind_some, List.length_replicate, Int.toNat_natCast]
  rfl
section
variable {n : Nat} {T1 : List (List (List Int))} {l : List S89} {R : List (List S27) × Int}
theorem i_l2 (hn : n ≤ 6) (m : Nat) (L : Int) (w : ByteArray) (f : Nat → Nat → Int) (hf : big n f) (v : S27) (hv : okF2 v) (i : Nat) (hi : i < n) :
    ∀ e j G, j + e = n → okG n G → (match colsV v f i e j G with | none => R = ([], 3) | some G' => okG n G' → Ev (fun k => impl_valueAt.l1 k T1 (matS n G') l L (m : Int) (mat n f) (n : Int) ((i + 1 : Nat) : Int) w v.f0 v.f1) R) →
    Ev (fun k => impl_valueAt.l2 k T1 (matS n G) (i : Int) l L (m : Int) (mat n f) (n : Int) (i : Int) (tab n (f i)) (n : Int) (j : Int) w v.f0 v.f1) R
  | 0, j, G, hj, hG, h => by
    refine Ev.step (fun k => ?_) (h hG)
    simp only [impl_valueAt.l2]
    rw [if_neg (by omega), wrap_nat _ (by omega)]
  | e + 1, j, G, hj, hG, h => by
    have c1 : ((j : Int) < (n : Int)) = True := eq_true (by omega)
    have c3 : ((i : Int) < (n : Int)) = True := eq_true (by omega)
    have c4 : (0 ≤ (j : Int)) = True := eq_true (by omega)
    have c5 : (0 ≤ (i : Int)) = True := eq_true (by omega)
    have hfb := hf i j hi (by omega)
    refine Ev.step (f := fun k => (impl_Fraction_timesWhole.f k v.f0 v.f1 (f i j)).bind fun bt396 => (if bt396.2.2 = true then ((impl_Fraction_plus.f k (G i j).f0 (G i j).f1 bt396.1 bt396.2.1).bind fun bt402 => (if bt402.2.2 = true then (impl_valueAt.l2 k T1 (matS n (putG G i j ⟨bt402.1, bt402.2.1⟩)) (i : Int) l L (m : Int) (mat n f) (n : Int) (i : Int) (tab n (f i)) (n : Int) ((j + 1 : Nat) : Int) w v.f0 v.f1) else (some (([] : List (List S27)), 3)))) else (some (([] : List (List S27)), 3)))) (fun k => ?_) ?_
    · simp only [impl_valueAt.l2, rdF_mat n G i hi, tab_length, mat_length, matS_length, rd_tab n (f i) j (by omega), rdS_tab n (G i) j (by omega), c1, c3, c4, c5, if_true, Int.toNat_natCast, wrap_nat j (by omega), matS_set]
    · generalize hT : timesF v ⟨f i j, 1⟩ = T
      have ht := whole_f v (f i j) hv (by omega)
      rw [hT] at ht
      unfold colsV addE at h
      rw [hT] at h
      refine Ev.bind (f := fun k bt396 => (if bt396.2.2 = true then ((impl_Fraction_plus.f k (G i j).f0 (G i j).f1 bt396.1 bt396.2.1).bind fun bt402 => (if bt402.2.2 = true then (impl_valueAt.l2 k T1 (matS n (putG G i j ⟨bt402.1, bt402.2.1⟩)) (i : Int) l L (m : Int) (mat n f) (n : Int) (i : Int) (tab n (f i)) (n : Int) ((j + 1 : Nat) : Int) w v.f0 v.f1) else (some (([] : List (List S27)), 3)))) else (some (([] : List (List S27)), 3)))) ht ?_
      by_cases f1 : fitF T.f0 T.f1 = true
      · rw [if_pos f1] at h
        refine Ev.congr (fun k => if_pos f1) ?_
        have hp := impl_plus_f (G i j) T (hG i j hi (by omega)) f1
        refine Ev.bind (f := fun k bt402 => (if bt402.2.2 = true then (impl_valueAt.l2 k T1 (matS n (putG G i j ⟨bt402.1, bt402.2.1⟩)) (i : Int) l L (m : Int) (mat n f) (n : Int) (i : Int) (tab n (f i)) (n : Int) ((j + 1 : Nat) : Int) w v.f0 v.f1) else (some (([] : List (List S27)), 3)))) hp ?_
        by_cases f2 : fitF (plusF (G i j) T).f0 (plusF (G i j) T).f1 = true
        · rw [if_pos f2] at h
          refine Ev.congr (fun k => if_pos f2) ?_
          exact i_l2 hn m L w f hf v hv i hi e (j + 1) _ (by omega) (okG_put hG i j f2) h
        · rw [if_neg f2] at h
          subst h
          exact Ev.congr (fun k => if_neg f2) (Ev.now _)
      · rw [if_neg f1] at h
        subst h
        exact Ev.congr (fun k => if_neg f1) (Ev.now _)
theorem i_l1 (hn : n ≤ 6) (m : Nat) (hm : m ≤ 1048576) (L : Int) (w : ByteArray) (f : Nat → Nat → Int) (hf : big n f) (v : S27) (hv : okF2 v) :
    ∀ e i G, i + e = n → okG n G → (match rowsV v f n e i G with | none => R = ([], 3) | some G' => okG n G' → Ev (fun k => impl_valueAt.l0 k T1 (matS n G') l L ((m + 1 : Nat) : Int)) R) →
    Ev (fun k => impl_valueAt.l1 k T1 (matS n G) l L (m : Int) (mat n f) (n : Int) (i : Int) w v.f0 v.f1) R
  | 0, i, G, hi, hG, h => by
    refine Ev.step (fun k => ?_) (h hG)
    simp only [impl_valueAt.l1]
    rw [if_neg (by omega), wrap_nat _ (by omega)]
  | e + 1, i, G, hi, hG, h => by
    refine Ev.step (f := fun k => impl_valueAt.l2 k T1 (matS n G) (i : Int) l L (m : Int) (mat n f) (n : Int) (i : Int) (tab n (f i)) (n : Int) ((0 : Nat) : Int) w v.f0 v.f1) (fun k => ?_) ?_
    · simp only [impl_valueAt.l1]
      rw [if_pos (by omega), if_pos (by omega), if_pos (by rw [mat_length]; omega), rdR_mat n f i (by omega), tab_length]
      rfl
    · refine i_l2 hn m L w f hf v hv i (by omega) n 0 G (by omega) hG ?_
      unfold rowsV at h
      cases hc : colsV v f i n 0 G with
      | none => rw [hc] at h; exact h
      | some G' =>
        rw [hc] at h
        intro hG'
        exact i_l1 hn m hm L w f hf v hv e (i + 1) G' (by omega) hG' h
theorem i_l0 (hn : n ≤ 6) (hl : l.length ≤ 1048576) {F : Nat → Nat → Nat → Int} (T : Tabs n T1 F) (h0 : 0 < T1.length) (hw : ∀ t ∈ l, okW T1.length t.f0 ∧ t.f0.size ≤ 1000 ∧ okF2 t.f1) :
    ∀ e m G, m + e = l.length → okG n G → (match termsV n (fun w => prodR n F w w.size 0 eye) (l.drop m) G with | none => R = ([], 3) | some G' => R = (matS n G', 0)) →
    Ev (fun k => impl_valueAt.l0 k T1 (matS n G) l (l.length : Int) (m : Int)) R
  | 0, m, G, hm, hG, h => by
    rw [List.drop_of_length_le (by omega)] at h
    simp only [termsV] at h
    subst h
    refine Ev.step (f := fun _ => some (matS n G, 0)) (fun k => ?_) (Ev.now _)
    simp only [impl_valueAt.l0]
    rw [if_neg (by omega)]
  | e + 1, m, G, hm, hG, h => by
    have hml : m < l.length := by omega
    have hr : rd_T89 l (m : Int) = l[m] := by simp [rd_T89, List.getD_eq_getElem?_getD, hml]
    obtain ⟨t1, t2, t3⟩ := hw l[m] (List.getElem_mem hml)
    rw [List.drop_eq_getElem_cons hml] at h
    unfold termsV at h
    have hp : Ev (fun k => impl_product.f k T1 (rd_T89 l (m : Int)).f0) (prodR n F l[m].f0 l[m].f0.size 0 eye) := ⟨1500, fun k hk => by rw [hr]; exact impl_product_f T h0 _ t1 (by omega) k (by omega)⟩
    refine Ev.step (f := fun k => (impl_product.f k T1 ((rd_T89 l (m : Int)).f0)).bind fun bt390 => (if bt390.2 = true then (impl_valueAt.l1 k T1 (matS n G) l (l.length : Int) (m : Int) bt390.1 (bt390.1.length : Int) 0 ((rd_T89 l (m : Int)).f0) ((rd_T89 l (m : Int)).f1.f0) ((rd_T89 l (m : Int)).f1.f1)) else (some (([] : List (List S27)), 3)))) (fun k => ?_) ?_
    · simp only [impl_valueAt.l0]
      rw [if_pos (by omega), if_pos (by omega), if_pos (by omega)]
    · refine Ev.bind (f := fun k bt390 => (if bt390.2 = true then (impl_valueAt.l1 k T1 (matS n G) l (l.length : Int) (m : Int) bt390.1 (bt390.1.length : Int) 0 ((rd_T89 l (m : Int)).f0) ((rd_T89 l (m : Int)).f1.f0) ((rd_T89 l (m : Int)).f1.f1)) else (some (([] : List (List S27)), 3)))) hp ?_
      rcases prodR_big n F l[m].f0 l[m].f0.size 0 eye (eye_big n) with ⟨g, hg, e1⟩ | e1
      · rw [e1] at h ⊢
        rw [if_pos rfl] at h
        refine Ev.congr (fun k => if_pos rfl) ?_
        dsimp only
        rw [mat_length, hr, ← ent_mat n g]
        refine i_l1 hn m (by omega) _ _ (ent (mat n g)) (fun i j hi hj => by rw [ent_at n g i j hi hj]; exact hg i j hi hj) l[m].f1 t3 n 0 G (by omega) hG ?_
        dsimp only at h
        cases hc : rowsV l[m].f1 (ent (mat n g)) n n 0 G with
        | none => rw [hc] at h; exact h
        | some G' =>
          rw [hc] at h
          intro hG'
          exact i_l0 hn hl T h0 hw e (m + 1) G' (by omega) hG' h
      · rw [e1] at h ⊢
        rw [if_neg (by simp)] at h
        dsimp only at h
        subst h
        exact Ev.congr (fun k => if_neg (by simp)) (Ev.now _)
theorem impl_value_f (h1 : 1 ≤ n) (hn : n ≤ 6) (a0 a1 : Int) (hl : l.length ≤ 1048576) {F : Nat → Nat → Nat → Int} (T : Tabs n T1 F) (h0 : 0 < T1.length) (hw : ∀ t ∈ l, okW T1.length t.f0 ∧ t.f0.size ≤ 1000 ∧ okF2 t.f1) :
    Ev (fun k => impl_valueAt.f k a0 a1 l T1) (match termsV n (fun w => prodR n F w w.size 0 eye) l zG with | none => ([], 3) | some G' => (matS n G', 0)) := by
  have hf := fractions_f n h1 hn
  have e0 : List.replicate n (List.replicate n (⟨0, 1⟩ : S27)) = matS n zG := by
    unfold matS
    rw [tab_rep, tab_rep]
    rfl
  rw [e0] at hf
  refine Ev.congr (fun k => ?_) (Ev.bind (f := fun k t385 => impl_valueAt.l0 k T1 t385 l (l.length : Int) ((0 : Nat) : Int)) hf (i_l0 hn hl T h0 hw l.length 0 zG (by omega) (okG_z n) (by rw [List.drop_zero]; split <;> rfl)))
  unfold impl_valueAt.f
  rw [if_pos (by omega), first_len T h0, mat_length]
  rfl
end
end Go.Proofs.Ytcklefgkbddlhaa.Pure
