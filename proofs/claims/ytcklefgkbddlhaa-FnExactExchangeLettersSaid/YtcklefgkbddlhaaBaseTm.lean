/- Plain lemmas: the terms of a table, and a fraction put at a word. -/
import Derived.Test.YtcklefgkbddlhaaBasePut
import Derived.Test.YtcklefgkbddlhaaBaseAsc
import Derived.Test.YtcklefgkbddlhaaTabI
namespace Go.Proofs.Ytcklefgkbddlhaa.Pure
open Go.RowKit Go.Proofs.Ytcklefgkbddlhaa.P Go.Proofs.Ytcklefgkbddlhaa.Tab Go.Proofs.YtcklefgkbddlhaaW.PrintWords Go.Proofs.YtcklefgkbddlhaaW.PrintLast
set_option linter.unusedVariables false
set_option linter.unusedSimpArgs false

/-- All values are fractions. -/
def okV (vs : List S27) : Prop := ∀ x ∈ vs, okF2 x
def partT (ws : List ByteArray) (vs : List S27) (i e : Nat) : List S89 := (List.range' i e).flatMap fun (j : Nat) => oneT (rdOf ByteArray.empty ws (j : Int)) (rd_T27 vs (j : Int))
theorem termsOf_part (ws : List ByteArray) (vs : List S27) (m : Nat) : termsOf ws vs m = partT ws vs 0 m := by
  unfold termsOf partT
  rw [List.range_eq_range']
  rfl
theorem partT_split (ws : List ByteArray) (vs : List S27) (n e : Nat) : partT ws vs 0 (n + 1 + e) = partT ws vs 0 n ++ oneT (rdOf ByteArray.empty ws (n : Int)) (rd_T27 vs (n : Int)) ++ partT ws vs (n + 1) e := by
  unfold partT
  rw [← List.range'_append_1, List.flatMap_append, Nat.zero_add, ← List.range'_append_1, List.flatMap_append, Nat.zero_add]
  simp
theorem partT_length (ws : List ByteArray) (vs : List S27) : ∀ e i, (partT ws vs i e).length ≤ e
  | 0, i => by simp [partT]
  | e + 1, i => by
    have ih := partT_length ws vs e (i + 1)
    have h1 := oneT_length (rdOf ByteArray.empty ws (i : Int)) (rd_T27 vs (i : Int))
    unfold partT at ih ⊢
    rw [List.range'_succ, List.flatMap_cons, List.length_append]
    omega
theorem partT_set (ws : List ByteArray) (vs : List S27) (n : Nat) (x : S27) : ∀ e i, (∀ j, i ≤ j → j < i + e → j ≠ n) → partT ws (vs.set n x) i e = partT ws vs i e
  | 0, i, _ => by simp [partT]
  | e + 1, i, h => by
    have ih := partT_set ws vs n x e (i + 1) (fun j h1 h2 => h j (by omega) (by omega))
    unfold partT at ih ⊢
    rw [List.range'_succ, List.flatMap_cons, List.flatMap_cons, ih]
    have e1 : rd_T27 (vs.set n x) (i : Int) = rd_T27 vs (i : Int) := by
      have := h i (by omega) (by omega)
      simp [rd_T27, List.getElem?_set, Ne.symm this]
    rw [e1]
theorem partT_mem (ws : List ByteArray) (vs : List S27) (t : S89) : ∀ e i, t ∈ partT ws vs i e → ∃ j, i ≤ j ∧ j < i + e ∧ t.f0 = rdOf ByteArray.empty ws (j : Int)
  | 0, i, h => by simp [partT] at h
  | e + 1, i, h => by
    unfold partT at h
    rw [List.range'_succ, List.flatMap_cons, List.mem_append] at h
    rcases h with h | h
    · refine ⟨i, by omega, by omega, ?_⟩
      unfold oneT at h
      split at h
      · cases h
      · rw [List.mem_singleton.1 h]
    · obtain ⟨j, h1, h2, h3⟩ := partT_mem ws vs t e (i + 1) h
      exact ⟨j, by omega, by omega, h3⟩
theorem plusF_new (a : S27) (ha : okF2 a) : plusF ⟨0, 1⟩ a = a := by
  have hb := fitF_bounds ha
  have hg : Int.gcd a.f0 a.f1 = 1 := by
    have := ha
    unfold okF2 fitF at this
    simp only [Bool.and_eq_true, decide_eq_true_eq] at this
    exact this.2.2
  unfold plusF redF
  simp [hg]
theorem ok_zero (x : S27) (h : okF2 x) (hz : x.f0 = 0) : x = ⟨0, 1⟩ := by
  unfold okF2 fitF at h
  simp only [Bool.and_eq_true, decide_eq_true_eq] at h
  have h1 := h.1.1
  have h2 := h.2.2
  rw [hz] at h2
  obtain ⟨x0, x1⟩ := x
  simp at hz h1 h2
  subst hz
  congr 1
  omega
/-- A fraction put into the terms of a table. -/
theorem put_table (ws : List ByteArray) (hws : ws.length ≤ 1000) (hasc : ws.Pairwise (fun v w => befW v w = true)) (vs : List S27) (hl : vs.length = ws.length) (hok : okV vs) (n : Nat) (hn : n < ws.length) (a : S27) (ha : okF2 a) :
    Ev (fun k => spec_l01Put.f k (termsOf ws vs ws.length) ws[n] a.f0 a.f1) (if fitF (plusF (rd_T27 vs (n : Int)) a).f0 (plusF (rd_T27 vs (n : Int)) a).f1 = true then (termsOf ws (vs.set n (plusF (rd_T27 vs (n : Int)) a)) ws.length, true) else ([], false)) := by
  have hr : ∀ j (h : j < ws.length), rdOf ByteArray.empty ws (j : Int) = ws[j] := fun j h => by simp [rdOf, h]
  have hlt := List.pairwise_iff_getElem.1 hasc
  have hv : rd_T27 vs (n : Int) = vs[n]'(by omega) := by
    have : n < vs.length := by omega
    simp [rd_T27, this]
  have hokn : okF2 (rd_T27 vs (n : Int)) := by rw [hv]; exact hok _ (List.getElem_mem _)
  obtain ⟨e, he⟩ : ∃ e, ws.length = n + 1 + e := ⟨ws.length - (n + 1), by omega⟩
  have hset : ∀ x : S27, rd_T27 (vs.set n x) (n : Int) = x := fun x => by
    have : n < vs.length := by omega
    simp [rd_T27, this]
  have e1 : termsOf ws vs ws.length = partT ws vs 0 n ++ oneT ws[n] (rd_T27 vs (n : Int)) ++ partT ws vs (n + 1) e := by
    rw [termsOf_part, he, partT_split, hr n hn]
  have e2 : ∀ x, termsOf ws (vs.set n x) ws.length = partT ws vs 0 n ++ oneT ws[n] x ++ partT ws vs (n + 1) e := fun x => by
    rw [termsOf_part, he, partT_split, hr n hn, hset, partT_set ws vs n x n 0 (fun j _ h => by omega), partT_set ws vs n x e (n + 1) (fun j h _ => by omega)]
  have hT1 := partT_length ws vs n 0
  have hT2 := partT_length ws vs e (n + 1)
  have hb : ∀ t ∈ partT ws vs 0 n, befW t.f0 ws[n] = true := fun t ht => by
    obtain ⟨j, _, h2, h3⟩ := partT_mem ws vs t n 0 ht
    rw [h3, hr j (by omega)]
    exact hlt j n (by omega) hn (by omega)
  have ha2 : ∀ t ∈ partT ws vs (n + 1) e, befW t.f0 ws[n] = false ∧ t.f0.toList ≠ ws[n].toList := fun t ht => by
    obtain ⟨j, h1, h2, h3⟩ := partT_mem ws vs t e (n + 1) ht
    rw [h3, hr j (by omega)]
    exact bef_asym _ _ (hlt n j hn (by omega) (by omega))
  by_cases hz : (rd_T27 vs (n : Int)).f0 = 0
  · have hz0 := ok_zero _ hokn hz
    rw [e1, oneT, if_pos hz, List.append_nil, hz0, plusF_new a ha, if_pos (show fitF a.f0 a.f1 = true from ha), e2]
    exact put_new _ _ _ a (by omega) (by omega) hb ha2
  · rw [e1, show oneT ws[n] (rd_T27 vs (n : Int)) = [⟨ws[n], rd_T27 vs (n : Int)⟩] from by rw [oneT, if_neg hz], e2, List.append_assoc, List.singleton_append]
    exact put_old _ _ _ a _ (by omega) (by omega) hb (bef_irr _) ha hokn
end Go.Proofs.Ytcklefgkbddlhaa.Pure
