/- The law on MapSeries: both programs come to the same. -/
import Derived.Test.YtcklefgkbddlhaaPx10
import Derived.Test.YtcklefgkbddlhaaBaseMapS
namespace Go.Proofs.Ytcklefgkbddlhaa.Pure
open Go.RowKit Go.Proofs.Ytcklefgkbddlhaa.P Go.Proofs.Ytcklefgkbddlhaa.Tab Go.Proofs.YtcklefgkbddlhaaW.PrintWords Go.Proofs.YtcklefgkbddlhaaW.PrintLast
set_option linter.unusedVariables false
set_option linter.unusedSimpArgs false

theorem isWd_ok (d : Int) (s : ByteArray) : ∀ n i, isWd d s n i = true → ∀ q : Nat, i ≤ q → q < i + n → 48 ≤ bt s q ∧ bt s q < 48 + d := by
  intro n
  induction n with
  | zero => intro i _ q h1 h2; omega
  | succ n ih =>
    intro i h q h1 h2
    rw [isWd] at h
    simp only [Bool.and_eq_true, decide_eq_true_eq] at h
    by_cases hq : q = i
    · subst hq; exact h.1
    · exact ih (i + 1) h.2 q (by omega) (by omega)
theorem wd_okW {D : Nat} {d : Int} {s : ByteArray} (hd : (D : Int) = d) (h : isWd d s s.size 0 = true) : okW D s := by
  intro i hi
  rw [hd]
  exact isWd_ok d s s.size 0 h i (by omega) (by omega)
theorem terms_ok {d n : Int} : ∀ (p : Option ByteArray) (l : List S89), termsFrom d n p l = true → ∀ t ∈ l, termOk d n t = true
  | _, [], _, t, ht => by cases ht
  | p, u :: l, h, t, ht => by
    simp only [termsFrom, Bool.and_eq_true] at h
    rcases List.mem_cons.1 ht with rfl | ht
    · exact h.1.1
    · exact terms_ok _ l h.2 t ht
/-- What both programs return. -/
def mapRes (d n : Int) (l : List S89) (e : Int) (rows : List (List Int)) : Int × Int × List S89 × Int :=
  if serOk d n l = true then (if (isMap d e rows && lvlOk e n) = true then toldOf e n (allW e.toNat (n.toNat + 1) 0) (termsP rows e.toNat (allW e.toNat (n.toNat + 1) 0) l (List.replicate (allW e.toNat (n.toNat + 1) 0).length ⟨0, 1⟩) false).1 (termsP rows e.toNat (allW e.toNat (n.toNat + 1) 0) l (List.replicate (allW e.toNat (n.toNat + 1) 0).length ⟨0, 1⟩) false).2 else (0, 0, [], 2)) else (0, 0, [], 1)
section
variable {d n e : Int} {l : List S89} {rows : List (List Int)}
theorem ser_terms (h : serOk d n l = true) : ∀ t ∈ l, Term1 d.toNat n.toNat t := by
  unfold serOk at h
  simp only [Bool.and_eq_true] at h
  have hb := lvlOk_bounds h.1
  intro t ht
  have := terms_ok none l h.2 t ht
  unfold termOk at this
  simp only [Bool.and_eq_true, decide_eq_true_eq] at this
  exact ⟨wd_okW (by omega) this.1.1, by omega, this.2.1, this.2.2⟩
theorem replicate_ok (m : Nat) : okV (List.replicate m (⟨0, 1⟩ : S27)) := fun x hx => by
  rw [(List.mem_replicate.1 hx).2]; exact ok01
theorem partT_zero (ws : List ByteArray) (m : Nat) : ∀ q i, partT ws (List.replicate m (⟨0, 1⟩ : S27)) i q = []
  | 0, i => by simp [partT]
  | q + 1, i => by
    have ih := partT_zero ws m q (i + 1)
    unfold partT at ih ⊢
    rw [List.range'_succ, List.flatMap_cons, ih, List.append_nil]
    have : (rd_T27 (List.replicate m (⟨0, 1⟩ : S27)) (i : Int)).f0 = 0 := by
      by_cases h : i < m
      · simp [rd_T27, h]
      · simp [rd_T27, h, z27]
    rw [oneT, if_pos this]
theorem mapRes_small : (mapRes d n l e rows).2.2.1.length ≤ 1000 := by
  unfold mapRes
  by_cases h : serOk d n l = true
  · rw [if_pos h]
    by_cases h2 : (isMap d e rows && lvlOk e n) = true
    · rw [if_pos h2]
      simp only [Bool.and_eq_true] at h2
      have hb := lvlOk_bounds h2.2
      have hw := (allW_length e.toNat n.toNat (by rw [show ((e.toNat : Nat) : Int) = e by omega, show ((n.toNat : Nat) : Int) = n by omega]; exact h2.2)).2
      unfold toldOf
      split
      · simp
      · dsimp only
        rw [termsOf_part]
        exact Nat.le_trans (partT_length _ _ _ _) hw
    · rw [if_neg h2]; simp
  · rw [if_neg h]; simp
theorem spec_map_f (hS : Small l) : Ev (fun k => spec_MapSeries.f k d n l e rows) (mapRes d n l e rows) := by
  have hj : Ev (fun k => spec_MapSeries.j0 k e rows true d n l) ((0 : Int), (0 : Int), ([] : List S89), (2 : Int)) := Ev.step (f := fun _ => some (0, 0, [], 2)) (fun k => by simp only [spec_MapSeries.j0]; rw [if_pos trivial]) (Ev.now _)
  refine Ev.bind (f := fun (k : Nat) (b1 : Bool) => (if b1 = true then ((spec_l07Is.f k d e rows).bind fun (b2 : Bool) => (if b2 = true then ((spec_l01Sizes.f e n).bind fun (b3 : Bool) => (spec_MapSeries.j0 k e rows (!b3) d n l)) else (spec_MapSeries.j0 k e rows true d n l))) else (some (0, 0, ([] : List S89), 1)))) (spec_is_f d n l hS) ?_
  unfold mapRes
  cases h : serOk d n l with
  | false => exact Ev.congr (fun k => if_neg (by simp)) (Ev.now _)
  | true =>
    refine Ev.congr (fun k => if_pos rfl) ?_
    rw [if_pos rfl]
    refine Ev.bind (f := fun (k : Nat) (b2 : Bool) => (if b2 = true then ((spec_l01Sizes.f e n).bind fun (b3 : Bool) => (spec_MapSeries.j0 k e rows (!b3) d n l)) else (spec_MapSeries.j0 k e rows true d n l))) (spec_isMap_f d e rows) ?_
    cases h2 : isMap d e rows with
    | false =>
      rw [Bool.false_and, if_neg (by simp)]
      exact Ev.congr (fun k => if_neg (by simp)) hj
    | true =>
      refine Ev.congr (fun k => if_pos rfl) ?_
      rw [spec_sizes_f, Bool.true_and]
      cases h3 : lvlOk e n with
      | false =>
        rw [if_neg (by simp)]
        exact hj
      | true =>
        rw [if_pos rfl]
        have hb := lvlOk_bounds h3
        have hmb := isMap_bounds h2
        have hT := ser_terms h
        obtain ⟨E, rfl⟩ : ∃ E : Nat, e = (E : Int) := ⟨e.toNat, by omega⟩
        obtain ⟨N, rfl⟩ : ∃ N : Nat, n = (N : Int) := ⟨n.toNat, by omega⟩
        obtain ⟨D, rfl⟩ : ∃ D : Nat, d = (D : Int) := ⟨d.toNat, by omega⟩
        simp only [Int.toNat_natCast] at hT ⊢
        have hw := (allW_length E N h3).2
        have hs := s_l0 (D := D) (E := E) (N := N) (rows := rows) (allW E (N + 1) 0) hw (allW_asc E (by omega) (N + 1) 0) l h2 h3 rfl hS.1 hT l.length 0 (List.replicate (allW E (N + 1) 0).length ⟨0, 1⟩) (by omega) (replicate_ok _) (by simp)
        rw [List.drop_zero, termsOf_part, partT_zero] at hs
        refine Ev.step (f := fun k => (spec_l07Map.f k (D : Int) (N : Int) l (E : Int) rows).bind fun (bt : Int × Int × List S89 × Bool) => (if bt.2.2.2 = true then (some (bt.1, bt.2.1, bt.2.2.1, (0 : Int))) else (some (0, 0, ([] : List S89), (3 : Int))))) (fun k => ?_) ?_
        · rw [Option.bind_some]
          simp only [Bool.not_true, spec_MapSeries.j0]
          rw [if_neg (by decide)]
        · refine Ev.bind (f := fun (_ : Nat) (bt : Int × Int × List S89 × Bool) => (if bt.2.2.2 = true then (some (bt.1, bt.2.1, bt.2.2.1, (0 : Int))) else (some (0, 0, ([] : List S89), (3 : Int))))) hs ?_
          unfold toldOf
          cases hbad : (termsP rows E (allW E (N + 1) 0) l (List.replicate (allW E (N + 1) 0).length ⟨0, 1⟩) false).2 with
          | true => exact Ev.congr (fun k => if_neg (by simp)) (Ev.now _)
          | false => exact Ev.congr (fun k => if_pos rfl) (Ev.now _)
theorem impl_map_f (hS : Small l) : Ev (fun k => MapSeries_f k d n l e rows) (mapRes d n l e rows) := by
  refine Ev.bind (f := fun (k : Nat) (b1 : Bool) => if b1 = true then (impl_IsMap.f d e rows).bind fun (b2 : Bool) => if b2 = true then (impl_isLevel.f e n).bind fun (b3 : Bool) => if b3 = true then
    (impl_allWords.f k e n).bind fun (ws : List ByteArray) => if 1 ≤ ws.length ∧ ws.length ≤ 1000 then (mapT k e rows l (List.replicate ws.length ⟨0, 1⟩) false).bind fun (r : List S27 × Bool) => if r.1.length = ws.length then some (toldOf e n ws r.1 r.2) else none else none
    else some (0, 0, [], 2) else some (0, 0, [], 2) else some (0, 0, [], 1)) (impl_isSeries_f d n l hS) ?_
  unfold mapRes
  cases h : serOk d n l with
  | false => exact Ev.congr (fun k => if_neg (by simp)) (Ev.now _)
  | true =>
    refine Ev.congr (fun k => if_pos rfl) ?_
    rw [if_pos rfl, impl_isMap_f]
    cases h2 : isMap d e rows with
    | false =>
      rw [Bool.false_and, if_neg (by simp)]
      exact Ev.congr (f := fun _ => some (0, 0, [], 2)) (fun k => by rw [Option.bind_some, if_neg (by simp)]) (Ev.now _)
    | true =>
      refine Ev.congr (fun k => by rw [Option.bind_some, if_pos rfl]) ?_
      rw [impl_isLevel_f, Bool.true_and]
      cases h3 : lvlOk e n with
      | false =>
        rw [if_neg (by simp)]
        exact Ev.congr (f := fun _ => some (0, 0, [], 2)) (fun k => by rw [Option.bind_some, if_neg (by simp)]) (Ev.now _)
      | true =>
        refine Ev.congr (fun k => by rw [Option.bind_some, if_pos rfl]) ?_
        rw [if_pos rfl]
        have hb := lvlOk_bounds h3
        have hmb := isMap_bounds h2
        have hT := ser_terms h
        obtain ⟨E, rfl⟩ : ∃ E : Nat, e = (E : Int) := ⟨e.toNat, by omega⟩
        obtain ⟨N, rfl⟩ : ∃ N : Nat, n = (N : Int) := ⟨n.toNat, by omega⟩
        obtain ⟨D, rfl⟩ : ∃ D : Nat, d = (D : Int) := ⟨d.toNat, by omega⟩
        simp only [Int.toNat_natCast] at hT ⊢
        have hw := allW_length E N h3
        have ha : Ev (fun k => impl_allWords.f k (E : Int) (N : Int)) (allW E (N + 1) 0) := ⟨30000, fun k hk => impl_allWords_f k E N (by omega) (by omega) hk⟩
        have hm := mapT_ev (D := D) (E := E) (N := N) (rows := rows) h2 h3 (allW E (N + 1) 0) rfl l (List.replicate (allW E (N + 1) 0).length ⟨0, 1⟩) false hT (replicate_ok _) (by simp)
        have hlen := (termsP_ok rows E (allW E (N + 1) 0) l (List.replicate (allW E (N + 1) 0).length ⟨0, 1⟩) false (replicate_ok _)).2.1
        rw [List.length_replicate] at hlen
        refine Ev.bind (f := fun (k : Nat) (ws : List ByteArray) => if 1 ≤ ws.length ∧ ws.length ≤ 1000 then (mapT k (E : Int) rows l (List.replicate ws.length ⟨0, 1⟩) false).bind fun (r : List S27 × Bool) => if r.1.length = ws.length then some (toldOf (E : Int) (N : Int) ws r.1 r.2) else none else none) ha ?_
        generalize allW E (N + 1) 0 = ws at hw hm hlen ⊢
        refine Ev.congr (fun k => if_pos hw) ?_
        refine Ev.bind (f := fun (_ : Nat) (r : List S27 × Bool) => if r.1.length = ws.length then some (toldOf (E : Int) (N : Int) ws r.1 r.2) else none) hm ?_
        exact Ev.congr (fun k => if_pos hlen) (Ev.now _)
end
end Go.Proofs.Ytcklefgkbddlhaa.Pure
