/- Plain lemmas: what a map makes of a series, as both programs reckon it. -/
import Derived.Test.YtcklefgkbddlhaaPx9
import Derived.Test.YtcklefgkbddlhaaBaseMapF
import Derived.Test.YtcklefgkbddlhaaTabN
namespace Go.Proofs.Ytcklefgkbddlhaa.Pure
open Go.RowKit Go.Proofs.Ytcklefgkbddlhaa.P Go.Proofs.Ytcklefgkbddlhaa.Tab Go.Proofs.YtcklefgkbddlhaaW.PrintWords Go.Proofs.YtcklefgkbddlhaaW.PrintLast
set_option linter.unusedVariables false
set_option linter.unusedSimpArgs false

/-- A value put at a number, and the mark. -/
def putV (vs : List S27) (bad : Bool) (n : Nat) (c : S27) : List S27 × Bool :=
  (addV vs n (plusF (rd_T27 vs (n : Int)) c).f0 (plusF (rd_T27 vs (n : Int)) c).f1 (fitF (plusF (rd_T27 vs (n : Int)) c).f0 (plusF (rd_T27 vs (n : Int)) c).f1), bad || !fitF (plusF (rd_T27 vs (n : Int)) c).f0 (plusF (rd_T27 vs (n : Int)) c).f1)
def selF (m : S27 × Bool) : S27 := ⟨sel m.2 m.1.f0 0, sel m.2 m.1.f1 1⟩
theorem selF_ok (m : S27 × Bool) (h : m.2 = true → okF2 m.1) : okF2 (selF m) := by
  unfold selF sel
  cases hm : m.2 with
  | true => simpa using h hm
  | false => simpa using ok01
theorem putV_ok (vs : List S27) (bad : Bool) (n : Nat) (c : S27) (hv : okV vs) : okV (putV vs bad n c).1 := by
  intro x hx
  unfold putV addV at hx
  rcases List.mem_or_eq_of_mem_set hx with h | h
  · exact hv x h
  · rw [h]
    unfold sel
    cases hf : fitF (plusF (rd_T27 vs (n : Int)) c).f0 (plusF (rd_T27 vs (n : Int)) c).f1 with
    | true => simpa [okF2] using hf
    | false => simpa using ok01
theorem putV_length (vs : List S27) (bad : Bool) (n : Nat) (c : S27) : (putV vs bad n c).1.length = vs.length := addV_length _ _ _ _ _
theorem rd_ok (vs : List S27) (hv : okV vs) (n : Nat) (hn : n < vs.length) : okF2 (rd_T27 vs (n : Int)) := by
  have : rd_T27 vs (n : Int) = vs[n] := by simp [rd_T27, hn]
  rw [this]; exact hv _ (List.getElem_mem hn)
theorem scP_ok (x : S27) (p : Int) (h : (scP x p).2 = true) : okF2 (scP x p).1 := by
  unfold scP at h ⊢
  split at h
  · rename_i hq
    rw [if_pos hq]
    exact h
  · cases h
section
variable {D E N : Nat} {rows : List (List Int)} (hm : isMap (D : Int) (E : Int) rows = true) (hl : lvlOk (E : Int) (N : Int) = true)
/-- A word's place. -/
def idxW (ws : List ByteArray) (v : ByteArray) : Nat := ws.findIdx fun u => decide (u = v)
/-- The table behind a word that a term leads to, and behind all. -/
def wordP (rows : List (List Int)) (ws : List ByteArray) (t : S89) (v : ByteArray) (vs : List S27) (bad : Bool) : List S27 × Bool :=
  if facP rows t.f0 v t.f0.size 0 1 = 0 then (vs, bad) else putV vs (bad || !(scP t.f1 (facP rows t.f0 v t.f0.size 0 1)).2) (idxW ws v) (selF (scP t.f1 (facP rows t.f0 v t.f0.size 0 1)))
def wordsP (rows : List (List Int)) (ws : List ByteArray) (t : S89) : List ByteArray → List S27 → Bool → List S27 × Bool
  | [], vs, bad => (vs, bad)
  | v :: l, vs, bad => wordsP rows ws t l (wordP rows ws t v vs bad).1 (wordP rows ws t v vs bad).2
def termsP (rows : List (List Int)) (e : Nat) (ws : List ByteArray) : List S89 → List S27 → Bool → List S27 × Bool
  | [], vs, bad => (vs, bad)
  | t :: l, vs, bad => termsP rows e ws l (wordsP rows ws t (wordsN e t.f0.size) vs bad).1 (wordsP rows ws t (wordsN e t.f0.size) vs bad).2
theorem wordP_ok (rows : List (List Int)) (ws : List ByteArray) (t : S89) (v : ByteArray) (vs : List S27) (bad : Bool) (h : okV vs) : okV (wordP rows ws t v vs bad).1 ∧ (wordP rows ws t v vs bad).1.length = vs.length ∧ (bad = true → (wordP rows ws t v vs bad).2 = true) := by
  unfold wordP
  split
  · exact ⟨h, rfl, id⟩
  · exact ⟨putV_ok _ _ _ _ h, putV_length _ _ _ _, fun hb => by simp [putV, hb]⟩
theorem wordsP_ok (rows : List (List Int)) (ws : List ByteArray) (t : S89) : ∀ (l : List ByteArray) (vs : List S27) (bad : Bool), okV vs → okV (wordsP rows ws t l vs bad).1 ∧ (wordsP rows ws t l vs bad).1.length = vs.length ∧ (bad = true → (wordsP rows ws t l vs bad).2 = true)
  | [], vs, bad, h => ⟨h, rfl, id⟩
  | v :: l, vs, bad, h => by
    obtain ⟨h1, h2, h3⟩ := wordP_ok rows ws t v vs bad h
    obtain ⟨g1, g2, g3⟩ := wordsP_ok rows ws t l _ (wordP rows ws t v vs bad).2 h1
    exact ⟨g1, g2.trans h2, fun hb => g3 (h3 hb)⟩
theorem termsP_ok (rows : List (List Int)) (e : Nat) (ws : List ByteArray) : ∀ (l : List S89) (vs : List S27) (bad : Bool), okV vs → okV (termsP rows e ws l vs bad).1 ∧ (termsP rows e ws l vs bad).1.length = vs.length ∧ (bad = true → (termsP rows e ws l vs bad).2 = true)
  | [], vs, bad, h => ⟨h, rfl, id⟩
  | t :: l, vs, bad, h => by
    obtain ⟨h1, h2, h3⟩ := wordsP_ok rows ws t (wordsN e t.f0.size) vs bad h
    obtain ⟨g1, g2, g3⟩ := termsP_ok rows e ws l _ (wordsP rows ws t (wordsN e t.f0.size) vs bad).2 h1
    exact ⟨g1, g2.trans h2, fun hb => g3 (h3 hb)⟩
theorem idx_of (ws : List ByteArray) (hasc : ws.Pairwise (fun v w => befW v w = true)) (n : Nat) (v : ByteArray) (h : ws[n]? = some v) : idxW ws v = n := by
  obtain ⟨hn, he⟩ := List.getElem?_eq_some_iff.1 h
  have hv : v ∈ ws := he ▸ List.getElem_mem hn
  have hi : idxW ws v < ws.length := List.findIdx_lt_length.2 ⟨v, hv, decide_eq_true rfl⟩
  have hg : ws[idxW ws v] = v := of_decide_eq_true (List.findIdx_getElem (w := hi))
  have hlt := List.pairwise_iff_getElem.1 hasc
  rcases Nat.lt_trichotomy (idxW ws v) n with h1 | h1 | h1
  · have := hlt _ n hi hn h1
    rw [hg, he, bef_irr] at this; cases this
  · exact h1
  · have := hlt n _ hn hi h1
    rw [hg, he, bef_irr] at this; cases this
/-- What a term must be. -/
structure Term1 (D N : Nat) (t : S89) : Prop where
  word : okW D t.f0
  size : t.f0.size ≤ N
  val : okF2 t.f1
  nz : t.f1.f0 ≠ 0
include hm hl
theorem step_facts {t : S89} (ht : Term1 D N t) {v : ByteArray} (hv : v ∈ wordsN E t.f0.size) :
    okW E v ∧ v.size = t.f0.size ∧ t.f0.size ≤ 5 ∧ idxW (allW E (N + 1) 0) v < (allW E (N + 1) 0).length ∧ (allW E (N + 1) 0)[idxW (allW E (N + 1) 0) v]? = some v ∧ Ev (fun k => impl_number.f k (E : Int) v) (idxW (allW E (N + 1) 0) v : Int) := by
  have hb := isMap_bounds hm
  have hlb := lvlOk_bounds hl
  obtain ⟨n, h1, h2, h3⟩ := number_word E N t.f0.size hl ht.size v hv
  have hi := idx_of _ (allW_asc E (by omega) (N + 1) 0) n v h2
  rw [hi]
  exact ⟨wordsN_ok E (by omega) _ v hv, wordsN_size E _ v hv, by have := ht.size; omega, h1, h2, h3⟩
theorem mapW_ev (ws : List ByteArray) (hws : ws = allW E (N + 1) 0) {t : S89} (ht : Term1 D N t) : ∀ (l : List ByteArray) (vs : List S27) (bad : Bool), (∀ v ∈ l, v ∈ wordsN E t.f0.size) → okV vs → vs.length = ws.length →
    Ev (fun k => mapW k (E : Int) rows t l vs bad) (wordsP rows ws t l vs bad)
  | [], vs, bad, _, _, _ => Ev.now _
  | v :: l, vs, bad, hv, hok, hlen => by
    obtain ⟨a1, a2, a3, a4, a5, a6⟩ := step_facts hm hl ht (hv v (List.mem_cons_self ..))
    rw [← hws] at a4 a6
    clear a5
    have hf := impl_fac_f hm ht.word a1 a2 a3
    have hsm := fac_small hm ht.word a1 a2 a3
    obtain ⟨w1, w2, w3⟩ := wordP_ok rows ws t v vs bad hok
    have ih := mapW_ev ws hws ht l (wordP rows ws t v vs bad).1 (wordP rows ws t v vs bad).2 (fun u hu => hv u (List.mem_cons_of_mem _ hu)) w1 (w2.trans hlen)
    have hval := ht.val
    have hnz := ht.nz
    clear hws w1 w2 w3 a1 a2 a3 hm hl ht
    simp only [mapW]
    rw [wordsP]
    refine Ev.bind (f := fun (k : Nat) (p : Int) => if p = 0 then mapW k (E : Int) rows t l vs bad else (impl_Fraction_timesWhole.f k t.f1.f0 t.f1.f1 p).bind fun (m : Int × Int × Bool) => (impl_number.f k (E : Int) v).bind fun (i : Int) => if 0 ≤ i ∧ i < (vs.length : Int) then
      (impl_Fraction_plus.f k (rd_T27 vs i).f0 (rd_T27 vs i).f1 (sel m.2.2 m.1 0) (sel m.2.2 m.2.1 1)).bind fun (s : Int × Int × Bool) => mapW k (E : Int) rows t l (addV vs i.toNat s.1 s.2.1 s.2.2) ((bad || !m.2.2) || !s.2.2) else none) hf ?_
    unfold wordP at ih ⊢
    generalize facP rows t.f0 v t.f0.size 0 1 = p at ih hsm ⊢
    generalize idxW ws v = n at a4 a6 ih ⊢
    have a4' : n < vs.length := by omega
    clear hf
    by_cases hp : p = 0
    · rw [if_pos hp] at ih ⊢
      exact Ev.congr (fun k => if_pos hp) ih
    · rw [if_neg hp] at ih ⊢
      have hsc := impl_sc_f t.f1 p hval hnz hp hsm
      have hs := selF_ok (scP t.f1 p) (scP_ok t.f1 p)
      generalize scP t.f1 p = m at ih hsc hs ⊢
      obtain ⟨⟨m0, m1⟩, m2⟩ := m
      refine Ev.congr (fun k => if_neg hp) ?_
      refine Ev.bind (f := fun (k : Nat) (m : Int × Int × Bool) => (impl_number.f k (E : Int) v).bind fun (i : Int) => if 0 ≤ i ∧ i < (vs.length : Int) then
        (impl_Fraction_plus.f k (rd_T27 vs i).f0 (rd_T27 vs i).f1 (sel m.2.2 m.1 0) (sel m.2.2 m.2.1 1)).bind fun (s : Int × Int × Bool) => mapW k (E : Int) rows t l (addV vs i.toNat s.1 s.2.1 s.2.2) ((bad || !m.2.2) || !s.2.2) else none) hsc ?_
      refine Ev.bind (f := fun (k : Nat) (i : Int) => if 0 ≤ i ∧ i < (vs.length : Int) then
        (impl_Fraction_plus.f k (rd_T27 vs i).f0 (rd_T27 vs i).f1 (sel m2 m0 0) (sel m2 m1 1)).bind fun (s : Int × Int × Bool) => mapW k (E : Int) rows t l (addV vs i.toNat s.1 s.2.1 s.2.2) ((bad || !m2) || !s.2.2) else none) a6 ?_
      have hcond : 0 ≤ (n : Int) ∧ (n : Int) < (vs.length : Int) := by omega
      refine Ev.congr (fun k => if_pos hcond) ?_
      have hpl := impl_plus_f (rd_T27 vs (n : Int)) (selF (⟨m0, m1⟩, m2)) (rd_ok vs hok _ a4') hs
      exact Ev.bind (f := fun (k : Nat) (s : Int × Int × Bool) => mapW k (E : Int) rows t l (addV vs (n : Int).toNat s.1 s.2.1 s.2.2) ((bad || !m2) || !s.2.2)) hpl ih
theorem mapT_ev (ws : List ByteArray) (hws : ws = allW E (N + 1) 0) : ∀ (l : List S89) (vs : List S27) (bad : Bool), (∀ t ∈ l, Term1 D N t) → okV vs → vs.length = ws.length →
    Ev (fun k => mapT k (E : Int) rows l vs bad) (termsP rows E ws l vs bad)
  | [], vs, bad, _, _, _ => Ev.now _
  | t :: l, vs, bad, ht, hok, hlen => by
    have h1 := ht t (List.mem_cons_self ..)
    have hb := isMap_bounds hm
    have hlb := lvlOk_bounds hl
    have hts := h1.size
    have hwd : Ev (fun k => impl_words.f k (E : Int) (t.f0.size : Int)) (wordsN E t.f0.size) := ⟨20000, fun k hk => impl_words_f k E t.f0.size (by omega) (by omega) hk⟩
    obtain ⟨w1, w2, w3⟩ := wordsP_ok rows ws t (wordsN E t.f0.size) vs bad hok
    simp only [mapT]
    rw [termsP]
    refine Ev.bind (f := fun (k : Nat) (ws : List ByteArray) => if 1 ≤ ws.length then (mapW k (E : Int) rows t ws vs bad).bind fun (r : List S27 × Bool) => mapT k (E : Int) rows l r.1 r.2 else none) hwd ?_
    refine Ev.congr (fun k => if_pos (by rw [wordsN_pow]; exact Nat.one_le_pow _ _ (by omega))) ?_
    exact Ev.bind (f := fun (k : Nat) (r : List S27 × Bool) => mapT k (E : Int) rows l r.1 r.2) (mapW_ev hm hl ws hws h1 _ vs bad (fun v hv => hv) hok hlen) (mapT_ev ws hws l _ _ (fun u hu => ht u (List.mem_cons_of_mem _ hu)) w1 (w2.trans hlen))
end
end Go.Proofs.Ytcklefgkbddlhaa.Pure
