/- The law on ValueOfSeries: both programs come to the same. -/
import Derived.Test.YtcklefgkbddlhaaPx10
import Derived.Test.YtcklefgkbddlhaaPx19
import Derived.Test.YtcklefgkbddlhaaBaseAll
namespace Go.Proofs.Ytcklefgkbddlhaa.Pure
open Go.RowKit Go.Proofs.Ytcklefgkbddlhaa.P Go.Proofs.YtcklefgkbddlhaaW.PrintWords Go.Proofs.YtcklefgkbddlhaaW.PrintLast
set_option linter.unusedVariables false
set_option linter.unusedSimpArgs false

theorem isWd_ok (d : Int) (s : ByteArray) : ∀ n i, isWd d s n i = true → ∀ q : Nat, i ≤ q → q < i + n → 48 ≤ bt s q ∧ bt s q < 48 + d := by
  intro n
  induction n with
  | zero => intro i _ q h1 h2; omega
  | succ n ih =>
    intro i h q h1 h2
    simp only [isWd, Bool.and_eq_true, decide_eq_true_eq] at h
    by_cases e : q = i
    · subst e; exact h.1
    · exact ih (i + 1) h.2 q (by omega) (by omega)
theorem wd_okW {d : Int} {s : ByteArray} {L : Nat} (hL : (L : Int) = d) (h : isWd d s s.size 0 = true) : okW L s := by
  intro i hi
  have := isWd_ok d s s.size 0 h i (by omega) (by omega)
  omega
theorem terms_ok {d n : Int} : ∀ (p : Option ByteArray) (l : List S89), termsFrom d n p l = true → ∀ t ∈ l, termOk d n t = true
  | _, [], _, t, ht => by cases ht
  | p, x :: l, h, t, ht => by
    rw [termsFrom] at h
    simp only [Bool.and_eq_true] at h
    rcases List.mem_cons.1 ht with rfl | ht
    · exact h.1.1
    · exact terms_ok _ l h.2 t ht
theorem szSSS_g (k : Nat) (l : List (List (List Int))) (left : Int) (h0 : 0 ≤ left) (h1 : left ≤ 1048576) (hw : ∀ m ∈ l, m.length ≤ 9223372036854775807 ∧ ∀ r ∈ m, r.length ≤ 9223372036854775807) (hl : l.length ≤ 9223372036854775807) (hk : 3000000 ≤ k) : ∃ t, laws_szInt64SSS.f k l left = some t ∧ (t < 0 ∨ (0 ≤ t ∧ (size3 l : Int) + l.length ≤ left)) := by
  unfold laws_szInt64SSS.f
  rw [wrap_of _ (by omega) (by omega)]
  by_cases hn : left - (l.length : Int) < 0
  · rw [if_pos hn]; exact ⟨-1, rfl, .inl (by omega)⟩
  · rw [if_neg hn]
    obtain ⟨t, ht, h2⟩ := szSSS_l0 l hw (by omega) l.length k 0 (left - l.length) (by omega) (by omega) (by omega) (by omega)
    refine ⟨t, ht, ?_⟩
    rw [List.drop_zero] at h2
    omega
/-- What both programs return. -/
def voRes (d n : Int) (l : List S89) (T : List (List (List Int))) : List (List S27) × Int :=
  if serOk d n l = true then (if areTabs d T = true then (match termsV (dimOf T).toNat (fun w => prodR (dimOf T).toNat (fun q => ent (T.getD q [])) w w.size 0 eye) l zG with | none => ([], 3) | some G => (matS (dimOf T).toNat G, 0)) else ([], 1)) else ([], 1)
theorem totF_tab (n : Nat) (G : Nat → Nat → S27) : ∀ m, totF (tab m fun i => tab n (G i)) = m * n := by
  intro m
  induction m with
  | zero => simp [tab, totF]
  | succ m ih => rw [tab_succ, totF_append, ih]; simp [totF, tab_length, Nat.succ_mul]
section
variable {d n : Int} {l : List S89} {T : List (List (List Int))}
theorem ser_facts (h : serOk d n l = true) : ∃ D : Nat, (D : Int) = d ∧ 1 ≤ D ∧ D ≤ 3 ∧ 1 ≤ n ∧ n ≤ 5 ∧ ∀ t ∈ l, okW D t.f0 ∧ t.f0.size ≤ 1000 ∧ okF2 t.f1 := by
  unfold serOk at h
  simp only [Bool.and_eq_true] at h
  have hb := lvlOk_bounds h.1
  refine ⟨d.toNat, by omega, by omega, by omega, hb.2.2.1, hb.2.2.2, fun t ht => ?_⟩
  have := terms_ok none l h.2 t ht
  unfold termOk at this
  simp only [Bool.and_eq_true, decide_eq_true_eq] at this
  exact ⟨wd_okW (by omega) this.1.1, by omega, this.2.1⟩
theorem tab_facts (h : areTabs d T = true) : 1 ≤ (dimOf T).toNat ∧ (dimOf T).toNat ≤ 6 ∧ (T.length : Int) = d ∧ 0 < T.length := by
  unfold areTabs at h
  simp only [Bool.and_eq_true, decide_eq_true_eq] at h
  omega
theorem voRes_small : (voRes d n l T).1.length ≤ 1000 ∧ totF (voRes d n l T).1 ≤ 10000 := by
  unfold voRes
  by_cases h : serOk d n l = true
  · rw [if_pos h]
    by_cases h2 : areTabs d T = true
    · rw [if_pos h2]
      have hn := (tab_facts h2).2.1
      cases termsV (dimOf T).toNat (fun w => prodR (dimOf T).toNat (fun q => ent (T.getD q [])) w w.size 0 eye) l zG with
      | none => simp [totF]
      | some G =>
        dsimp only
        rw [matS_length]
        unfold matS
        rw [totF_tab]
        have := Nat.mul_le_mul hn hn
        omega
    · rw [if_neg h2]; simp [totF]
  · rw [if_neg h]; simp [totF]
theorem spec_vo_f (hS : Small l) (hl : T.length ≤ 4000000) : Ev (fun k => spec_ValueOfSeries.f k d n l T) (voRes d n l T) := by
  have hj : Ev (fun k => spec_ValueOfSeries.j0 k T true d n l) (([] : List (List S27)), (1 : Int)) := Ev.step (f := fun _ => some ([], 1)) (fun k => by simp only [spec_ValueOfSeries.j0]; rw [if_pos trivial]) (Ev.now _)
  refine Ev.bind (f := fun k t266 => (if t266 = true then ((spec_l08Are.f k d T).bind fun t267 => (spec_ValueOfSeries.j0 k T (!t267) d n l)) else (spec_ValueOfSeries.j0 k T true d n l))) (spec_is_f d n l hS) ?_
  unfold voRes
  cases h : serOk d n l with
  | false => exact Ev.congr (fun k => if_neg (by simp)) hj
  | true =>
    refine Ev.congr (fun k => if_pos rfl) ?_
    rw [if_pos rfl]
    have ha : Ev (fun k => spec_l08Are.f k d T) (areTabs d T) := ⟨300, fun k hk => spec_l08Are_f k d T hk hl⟩
    refine Ev.bind (f := fun k t267 => (spec_ValueOfSeries.j0 k T (!t267) d n l)) ha ?_
    cases h2 : areTabs d T with
    | false => exact hj
    | true =>
      obtain ⟨D, hD, h1, h3, hn1, hn5, hw⟩ := ser_facts h
      obtain ⟨g1, g2, g3, g4⟩ := tab_facts h2
      have hTL : T.length = D := by omega
      rw [if_pos rfl]
      have hv := spec_value_f (a0 := d) (a1 := n) g1 g2 hS.1 (areTabs_tabs h2) g4 (fun t ht => by rw [hTL]; exact hw t ht)
      refine Ev.step (f := fun k => (spec_l08Value.f k d n l T).bind fun bt268 => (if bt268.2 = true then (some (bt268.1, (0 : Int))) else (some (([] : List (List S27)), (3 : Int))))) (fun k => ?_) ?_
      · simp only [Bool.not_true, spec_ValueOfSeries.j0]
        rw [if_neg (by decide)]
      · refine Ev.bind (f := fun _ bt268 => (if bt268.2 = true then (some (bt268.1, (0 : Int))) else (some (([] : List (List S27)), (3 : Int))))) hv ?_
        cases termsV (dimOf T).toNat (fun w => prodR (dimOf T).toNat (fun q => ent (T.getD q [])) w w.size 0 eye) l zG with
        | none => exact Ev.congr (fun k => if_neg (by simp)) (Ev.now _)
        | some G => exact Ev.congr (fun k => if_pos rfl) (Ev.now _)
theorem impl_vo_f (hS : Small l) : Ev (fun k => impl_ValueOfSeries.f k d n l T) (voRes d n l T) := by
  refine Ev.bind (f := fun k t436 => (if t436 = true then ((impl_AreTables.f d T).bind fun t437 => (if t437 = true then ((impl_valueAt.f k d n l T).bind fun bt438 => (some (bt438.1, bt438.2))) else (some (([] : List (List S27)), 1)))) else (some (([] : List (List S27)), 1)))) (impl_isSeries_f d n l hS) ?_
  unfold voRes
  rw [impl_AreTables_f]
  cases h : serOk d n l with
  | false => exact Ev.congr (fun k => if_neg (by simp)) (Ev.now _)
  | true =>
    refine Ev.congr (fun k => if_pos rfl) ?_
    rw [if_pos rfl]
    cases h2 : areTabs d T with
    | false =>
      rw [if_neg (by simp)]
      exact Ev.congr (f := fun _ => some ([], 1)) (fun k => by rw [Option.bind_some, if_neg (by simp)]) (Ev.now _)
    | true =>
      obtain ⟨D, hD, h1, h3, hn1, hn5, hw⟩ := ser_facts h
      obtain ⟨g1, g2, g3, g4⟩ := tab_facts h2
      have hTL : T.length = D := by omega
      have hv := impl_value_f g1 g2 d n hS.1 (areTabs_tabs h2) g4 (fun t ht => by rw [hTL]; exact hw t ht)
      rw [if_pos rfl]
      refine Ev.congr (fun k => by rw [Option.bind_some, if_pos rfl]) ?_
      exact Ev.bind (f := fun _ bt438 => some (bt438.1, bt438.2)) hv (Ev.now _)
end
end Go.Proofs.Ytcklefgkbddlhaa.Pure
