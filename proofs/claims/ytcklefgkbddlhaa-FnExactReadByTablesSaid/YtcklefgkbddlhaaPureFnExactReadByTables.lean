/- The law on ReadByTables: both programs come to the same. -/
import Derived.Test.YtcklefgkbddlhaaPx8
import Derived.Test.YtcklefgkbddlhaaPx18
import Derived.Test.YtcklefgkbddlhaaPx20
import Derived.Test.YtcklefgkbddlhaaBaseSerV
import Derived.Test.YtcklefgkbddlhaaBaseLawV
import Derived.Test.YtcklefgkbddlhaaBaseTabsV
import Derived.Test.YtcklefgkbddlhaaBaseValI
namespace Go.Proofs.Ytcklefgkbddlhaa.Pure
open Go.RowKit Go.Proofs.Ytcklefgkbddlhaa.P Go.Proofs.YtcklefgkbddlhaaW.PrintWords Go.Proofs.YtcklefgkbddlhaaW.PrintLast
set_option linter.unusedVariables false
set_option linter.unusedSimpArgs false

theorem isWd_ok (d : Int) (s : ByteArray) : ∀ n i, isWd d s n i = true → ∀ q : Nat, i ≤ q → q < i + n → 48 ≤ bt s q ∧ bt s q < 48 + d := by
  intro n
  induction n with
  | zero => intro i _ q h1 h2; omega
  | succ n ih =>
    intro i h q h1 h2
    simp only [isWd, Bool.and_eq_true, decide_eq_true_eq] at h
    by_cases e : q = i
    · subst e; exact h.1
    · exact ih (i + 1) h.2 q (by omega) (by omega)
theorem wd_okW {d : Int} {s : ByteArray} {L : Nat} (hL : (L : Int) = d) (h : isWd d s s.size 0 = true) : okW L s := by
  intro i hi
  have := isWd_ok d s s.size 0 h i (by omega) (by omega)
  omega
theorem spec_tabs_f (d : Nat) (hd : d ≤ 3) (s : ByteArray) (hs : s.size ≤ 5) (hw : okW d s) : Ev (fun k => spec_l08Tables.f k (d : Int) s) (tab d fun a => mat (s.size + 1) (ET s s.size a)) :=
  ⟨1000, fun k hk => stab_l0 d hd s hs hw d k 0 (by omega) (by omega)⟩
theorem impl_tabs_f (d : Nat) (hd : d ≤ 3) (s : ByteArray) (hs : s.size ≤ 5) (hw : okW d s) : Ev (fun k => impl_tablesOf.f k (d : Int) s) (tab d fun a => mat (s.size + 1) (ET s s.size a)) :=
  ⟨1000, fun k hk => itab_l0 d hd s hs hw d k 0 (by omega) (by omega)⟩
theorem tabsET (d : Nat) (hd : d ≤ 3) (s : ByteArray) (hs : s.size ≤ 5) : Tabs (s.size + 1) (tab d fun a => mat (s.size + 1) (ET s s.size a)) (fun a => ET s s.size a) :=
  ⟨by rw [tab_length]; exact hd, by omega, fun q h => ⟨tab_get d _ q h, fun i j _ _ => by unfold ET; split <;> omega⟩⟩
theorem terms_ok {d n : Int} : ∀ (p : Option ByteArray) (l : List S89), termsFrom d n p l = true → ∀ t ∈ l, termOk d n t = true
  | _, [], _, t, ht => by cases ht
  | p, x :: l, h, t, ht => by
    rw [termsFrom] at h
    simp only [Bool.and_eq_true] at h
    rcases List.mem_cons.1 ht with rfl | ht
    · exact h.1.1
    · exact terms_ok _ l h.2 t ht
/-- What both programs return. -/
def rbVal (s : ByteArray) (l : List S89) : Option (Nat → Nat → S27) := termsV (s.size + 1) (fun w => prodR (s.size + 1) (fun a => ET s s.size a) w w.size 0 eye) l zG
def rbIn (n : Int) (l : List S89) (s : ByteArray) : Int × Int × Int := if (s.size : Int) > n then (0, 0, 2) else (match rbVal s l with | none => (0, 0, 3) | some G => ((G 0 s.size).f0, (G 0 s.size).f1, 0))
def rbRes (d n : Int) (l : List S89) (s : ByteArray) : Int × Int × Int := if serOk d n l = true then (if isWd d s s.size 0 = true then rbIn n l s else (0, 0, 1)) else (0, 0, 1)
section
variable {d n : Int} {l : List S89} {s : ByteArray}
theorem ser_facts (h : serOk d n l = true) : ∃ D : Nat, (D : Int) = d ∧ 1 ≤ D ∧ D ≤ 3 ∧ 1 ≤ n ∧ n ≤ 5 ∧ ∀ t ∈ l, okW D t.f0 ∧ t.f0.size ≤ 1000 ∧ okF2 t.f1 := by
  unfold serOk at h
  simp only [Bool.and_eq_true] at h
  have hb := lvlOk_bounds h.1
  refine ⟨d.toNat, by omega, by omega, by omega, hb.2.2.1, hb.2.2.2, fun t ht => ?_⟩
  have := terms_ok none l h.2 t ht
  unfold termOk at this
  simp only [Bool.and_eq_true, decide_eq_true_eq] at this
  exact ⟨wd_okW (by omega) this.1.1, by omega, this.2.1⟩
theorem s_j0 (hS : Small l) (h : serOk d n l = true) (hs : isWd d s s.size 0 = true) : Ev (fun k => spec_ReadByTables.j0 k s false d n l) (rbIn n l s) := by
  obtain ⟨D, rfl, h1, h3, hn1, hn5, hw⟩ := ser_facts h
  unfold rbIn
  by_cases c : (s.size : Int) > n
  · rw [if_pos c]
    refine Ev.step (f := fun _ => some (0, 0, 2)) (fun k => ?_) (Ev.now _)
    simp only [spec_ReadByTables.j0]
    rw [if_neg (by decide), if_pos c]
  · rw [if_neg c]
    have hsz : s.size ≤ 5 := by omega
    have hT := tabsET D h3 s hsz
    have hv := spec_value_f (a0 := (D : Int)) (a1 := n) (l := l) (by omega) hT.dim hS.1 hT (by rw [tab_length]; omega) (fun t ht => by rw [tab_length]; exact hw t ht)
    refine Ev.step (f := fun k => (spec_l08Tables.f k (D : Int) s).bind fun t245 => ((spec_l08Value.f k (D : Int) n l t245).bind fun bt248 => (if bt248.2 = true then (if 0 < (bt248.1.length : Int) then (if 0 ≤ (s.size : Int) then (if (s.size : Int) < ((rd_L8 bt248.1 0).length : Int) then (some ((rd_T27 (rd_L8 bt248.1 0) (s.size : Int)).f0, (rd_T27 (rd_L8 bt248.1 0) (s.size : Int)).f1, (0 : Int))) else (none)) else (none)) else (none)) else (some ((0 : Int), (0 : Int), (3 : Int)))))) (fun k => ?_) ?_
    · simp only [spec_ReadByTables.j0]
      rw [if_neg (by decide), if_neg c]
    · refine Ev.bind (f := fun k t245 => ((spec_l08Value.f k (D : Int) n l t245).bind fun bt248 => (if bt248.2 = true then (if 0 < (bt248.1.length : Int) then (if 0 ≤ (s.size : Int) then (if (s.size : Int) < ((rd_L8 bt248.1 0).length : Int) then (some ((rd_T27 (rd_L8 bt248.1 0) (s.size : Int)).f0, (rd_T27 (rd_L8 bt248.1 0) (s.size : Int)).f1, (0 : Int))) else (none)) else (none)) else (none)) else (some ((0 : Int), (0 : Int), (3 : Int)))))) (spec_tabs_f D h3 s hsz (wd_okW rfl hs)) ?_
      refine Ev.bind (f := fun k bt248 => (if bt248.2 = true then (if 0 < (bt248.1.length : Int) then (if 0 ≤ (s.size : Int) then (if (s.size : Int) < ((rd_L8 bt248.1 0).length : Int) then (some ((rd_T27 (rd_L8 bt248.1 0) (s.size : Int)).f0, (rd_T27 (rd_L8 bt248.1 0) (s.size : Int)).f1, (0 : Int))) else (none)) else (none)) else (none)) else (some ((0 : Int), (0 : Int), (3 : Int))))) hv ?_
      unfold rbVal
      cases hr : termsV (s.size + 1) (fun w => prodR (s.size + 1) (fun a => ET s s.size a) w w.size 0 eye) l zG with
      | none => exact Ev.congr (fun k => if_neg (by simp)) (Ev.now _)
      | some G =>
        refine Ev.congr (fun k => ?_) (Ev.now _)
        have e0 := rdF_mat (s.size + 1) G 0 (by omega)
        rw [show ((0 : Nat) : Int) = 0 from rfl] at e0
        dsimp only
        rw [if_pos rfl, if_pos (by rw [matS_length]; omega), if_pos (by omega), e0, if_pos (by rw [tab_length]; omega), rdS_tab _ _ _ (by omega)]
theorem i_j0 (hS : Small l) (h : serOk d n l = true) (hs : isWd d s s.size 0 = true) : Ev (fun k => impl_ReadByTables.j0 k s false d n l) (rbIn n l s) := by
  obtain ⟨D, rfl, h1, h3, hn1, hn5, hw⟩ := ser_facts h
  unfold rbIn
  by_cases c : (s.size : Int) > n
  · rw [if_pos c]
    refine Ev.step (f := fun _ => some (0, 0, 2)) (fun k => ?_) (Ev.now _)
    simp only [impl_ReadByTables.j0]
    rw [if_neg (by decide), if_pos c]
  · rw [if_neg c]
    have hsz : s.size ≤ 5 := by omega
    have hT := tabsET D h3 s hsz
    have hv := impl_value_f (l := l) (by omega) hT.dim (D : Int) n hS.1 hT (by rw [tab_length]; omega) (fun t ht => by rw [tab_length]; exact hw t ht)
    refine Ev.step (f := fun k => (impl_tablesOf.f k (D : Int) s).bind fun t420 => ((impl_valueAt.f k (D : Int) n l t420).bind fun bt423 => (if bt423.2 = 0 then (if 0 < (bt423.1.length : Int) then (if 0 ≤ (s.size : Int) then (if (s.size : Int) < ((rd_L8 bt423.1 0).length : Int) then (some ((rd_T27 (rd_L8 bt423.1 0) (s.size : Int)).f0, (rd_T27 (rd_L8 bt423.1 0) (s.size : Int)).f1, (0 : Int))) else (none)) else (none)) else (none)) else (some ((0 : Int), (0 : Int), bt423.2))))) (fun k => ?_) ?_
    · simp only [impl_ReadByTables.j0]
      rw [if_neg (by decide), if_neg c]
    · refine Ev.bind (f := fun k t420 => ((impl_valueAt.f k (D : Int) n l t420).bind fun bt423 => (if bt423.2 = 0 then (if 0 < (bt423.1.length : Int) then (if 0 ≤ (s.size : Int) then (if (s.size : Int) < ((rd_L8 bt423.1 0).length : Int) then (some ((rd_T27 (rd_L8 bt423.1 0) (s.size : Int)).f0, (rd_T27 (rd_L8 bt423.1 0) (s.size : Int)).f1, (0 : Int))) else (none)) else (none)) else (none)) else (some ((0 : Int), (0 : Int), bt423.2))))) (impl_tabs_f D h3 s hsz (wd_okW rfl hs)) ?_
      refine Ev.bind (f := fun k bt423 => (if bt423.2 = 0 then (if 0 < (bt423.1.length : Int) then (if 0 ≤ (s.size : Int) then (if (s.size : Int) < ((rd_L8 bt423.1 0).length : Int) then (some ((rd_T27 (rd_L8 bt423.1 0) (s.size : Int)).f0, (rd_T27 (rd_L8 bt423.1 0) (s.size : Int)).f1, (0 : Int))) else (none)) else (none)) else (none)) else (some ((0 : Int), (0 : Int), bt423.2)))) hv ?_
      unfold rbVal
      cases hr : termsV (s.size + 1) (fun w => prodR (s.size + 1) (fun a => ET s s.size a) w w.size 0 eye) l zG with
      | none => exact Ev.congr (fun k => if_neg (by simp)) (Ev.now _)
      | some G =>
        refine Ev.congr (fun k => ?_) (Ev.now _)
        have e0 := rdF_mat (s.size + 1) G 0 (by omega)
        rw [show ((0 : Nat) : Int) = 0 from rfl] at e0
        dsimp only
        rw [if_pos rfl, if_pos (by rw [matS_length]; omega), if_pos (by omega), e0, if_pos (by rw [tab_length]; omega), rdS_tab _ _ _ (by omega)]
theorem spec_read_f (hS : Small l) (hs : s.size ≤ 1048576) : Ev (fun k => spec_ReadByTables.f k d n l s) (rbRes d n l s) := by
  have hj : Ev (fun k => spec_ReadByTables.j0 k s true d n l) ((0 : Int), (0 : Int), (1 : Int)) := Ev.step (f := fun _ => some (0, 0, 1)) (fun k => by simp only [spec_ReadByTables.j0]; rw [if_pos trivial]) (Ev.now _)
  refine Ev.bind (f := fun k t243 => (if t243 = true then ((spec_l01Word.f k d s).bind fun t244 => (spec_ReadByTables.j0 k s (!t244) d n l)) else (spec_ReadByTables.j0 k s true d n l))) (spec_is_f d n l hS) ?_
  unfold rbRes
  cases h : serOk d n l with
  | false => exact Ev.congr (fun k => if_neg (by simp)) hj
  | true =>
    obtain ⟨D, hD, h1, h3, _⟩ := ser_facts h
    refine Ev.congr (fun k => if_pos rfl) ?_
    rw [if_pos rfl]
    refine Ev.bind (f := fun k t244 => (spec_ReadByTables.j0 k s (!t244) d n l)) (spec_word_f d (by omega) (by omega) s hs) ?_
    cases hw : isWd d s s.size 0 with
    | false => exact hj
    | true => exact s_j0 hS h hw
theorem impl_read_f (hS : Small l) (hs : s.size ≤ 1048576) : Ev (fun k => impl_ReadByTables.f k d n l s) (rbRes d n l s) := by
  have hj : Ev (fun k => impl_ReadByTables.j0 k s true d n l) ((0 : Int), (0 : Int), (1 : Int)) := Ev.step (f := fun _ => some (0, 0, 1)) (fun k => by simp only [impl_ReadByTables.j0]; rw [if_pos trivial]) (Ev.now _)
  refine Ev.bind (f := fun k t418 => (if t418 = true then ((impl_isWord.f k d s 1099511627776).bind fun t419 => (impl_ReadByTables.j0 k s (!t419) d n l)) else (impl_ReadByTables.j0 k s true d n l))) (impl_isSeries_f d n l hS) ?_
  unfold rbRes
  cases h : serOk d n l with
  | false => exact Ev.congr (fun k => if_neg (by simp)) hj
  | true =>
    obtain ⟨D, hD, h1, h3, _⟩ := ser_facts h
    refine Ev.congr (fun k => if_pos rfl) ?_
    rw [if_pos rfl]
    refine Ev.bind (f := fun k t419 => (impl_ReadByTables.j0 k s (!t419) d n l)) (impl_word_f d (by omega) (by omega) s hs 1099511627776) ?_
    rw [show decide ((s.size : Int) ≤ 1099511627776) = true from decide_eq_true (by omega), Bool.and_true]
    cases hw : isWd d s s.size 0 with
    | false => exact hj
    | true => exact i_j0 hS h hw
end
theorem read_law (d n : Int) (l : List S124) (s : ByteArray) (hw : ∀ x ∈ l, x.f0.size ≤ maxLen) (hl : l.length ≤ maxLen) : ∃ k, laws_FnExactReadByTables.f k d n l s = some true := by
  have hM : maxLen = 9223372036854775807 := rfl
  by_cases cs : (s.size : Int) > 1048576
  · exact ⟨0, by unfold laws_FnExactReadByTables.f; rw [if_pos cs]⟩
  obtain ⟨t0, g0, L0⟩ := szSeries_f 5000000 d n l 1048576 hw hl (by decide) (by decide) (by decide)
  by_cases c0 : t0 < 0
  · exact ⟨5000000, by unfold laws_FnExactReadByTables.f; rw [if_neg cs, g0, Option.bind_some, if_pos c0]⟩
  · rcases L0 with L0 | ⟨a0, b0, e0, f0⟩
    · exact absurd L0 c0
    have hS : Small (l.map tmOf) := ⟨by rw [List.length_map]; omega, tmOf_mem (fun x hx => by have := f0 x hx; omega)⟩
    obtain ⟨K0, H0⟩ := impl_read_f (d := d) (n := n) (s := s) hS (by omega)
    obtain ⟨K1, H1⟩ := spec_read_f (d := d) (n := n) (s := s) hS (by omega)
    obtain ⟨k, hk0, hk1, hk2⟩ : ∃ k : Nat, K0 ≤ k + 1 ∧ K1 ≤ k + 1 ∧ 5000000 ≤ k := ⟨max (max K0 K1) 5000000, by omega, by omega, by omega⟩
    have I := H0 (k + 1) hk0
    have S := H1 (k + 1) hk1
    dsimp only at I S
    have Z := at_rounds (fun k => laws_szSeries.mono d n l 1048576 k) (show 5000000 ≤ k + 1 by omega) g0
    have hml : (l.map tmOf).length = l.length := List.length_map _
    have T := toSeries_f (k + 1) d n l (by omega) (by omega)
    have T' := toSeries_f k d n l (by omega) (by omega)
    have E := eqSeries_f k d n (l.map tmOf) (by omega) (by omega)
    refine ⟨k + 1, ?_⟩
    unfold laws_FnExactReadByTables.f
    rw [if_neg cs]
    simp only [Z, T, S, I, Option.bind_some, c0, if_false, laws_eqFraction.f, if_true, bne_self_eq_false, laws_FnExactReadByTables.j0, T', E, Bool.false_eq_true]
end Go.Proofs.Ytcklefgkbddlhaa.Pure
