/- Plain lemmas: words whose letters are exchanged. -/
import Derived.Test.YtcklefgkbddlhaaBaseTm
namespace Go.Proofs.Ytcklefgkbddlhaa.Pure
open Go.RowKit Go.Proofs.Ytcklefgkbddlhaa.P Go.Proofs.YtcklefgkbddlhaaW.PrintWords Go.Proofs.YtcklefgkbddlhaaW.PrintLast
set_option linter.unusedVariables false
set_option linter.unusedSimpArgs false

theorem strOf_size (l : List Int) : (strOfNums l).size = l.length := by simp [strOfNums, ByteArray.size]
theorem bt_strOf (l : List Int) (h : ∀ x ∈ l, 0 ≤ x ∧ x < 256) (i : Nat) (hi : i < l.length) : bt (strOfNums l) (i : Int) = l[i] := by
  have hx := h _ (List.getElem_mem hi)
  unfold bt
  rw [dif_pos (by rw [strOf_size]; simpa using hi)]
  have e : (strOfNums l)[((i : Nat) : Int).toNat]'(by rw [strOf_size]; simpa using hi) = UInt8.ofNat (l[i]).toNat := by
    simp [strOfNums, ByteArray.getElem_eq_getElem_data]
  rw [e, UInt8.toNat_ofNat']
  omega
theorem bt_ext (v w : ByteArray) (hs : v.size = w.size) (h : ∀ i : Nat, i < v.size → bt v (i : Int) = bt w (i : Int)) : v = w := by
  apply ByteArray.ext_getElem hs
  intro i h1 h2
  have := h i h1
  unfold bt at this
  rw [dif_pos (by simpa using h1), dif_pos (by simpa using h2)] at this
  simp only [Int.toNat_natCast] at this
  exact UInt8.toNat_inj.1 (by omega)
theorem mem_wordsN (d : Nat) (hd : d ≤ 3) : ∀ (n : Nat) (v : ByteArray), v.size = n → okW d v → v ∈ wordsN d n
  | 0, v, hs, _ => by
    have e : v = ⟨#[]⟩ := bt_ext _ _ (by rw [hs]; rfl) (fun i hi => by omega)
    rw [e, wordsN]; simp
  | n + 1, v, hs, hv => by
    have hn := hv n (by omega)
    have hl : ∀ x ∈ (List.range n).map (fun i => bt v ((i : Nat) : Int)), 0 ≤ x ∧ x < 256 := fun x hx => by
      obtain ⟨i, hi, rfl⟩ := List.mem_map.1 hx
      have := hv i (by have := List.mem_range.1 hi; omega)
      omega
    have hu : (strOfNums ((List.range n).map fun i => bt v ((i : Nat) : Int))).size = n := by rw [strOf_size]; simp
    have hb : ∀ i : Nat, i < n → bt (strOfNums ((List.range n).map fun i => bt v ((i : Nat) : Int))) (i : Int) = bt v (i : Int) := fun i hi => by
      rw [bt_strOf _ hl i (by simpa using hi)]
      simp
    generalize strOfNums ((List.range n).map fun i => bt v ((i : Nat) : Int)) = u at hu hb
    have hok : okW d u := fun i hi => by rw [hb i (by omega)]; exact hv i (by omega)
    have ih := mem_wordsN d hd n u hu hok
    obtain ⟨c, hc⟩ : ∃ c : Nat, bt v (n : Int) - 48 = (c : Int) := ⟨(bt v (n : Int) - 48).toNat, by omega⟩
    have e : v = u ++ wbyte c := by
      refine bt_ext _ _ (by rw [size_app, wbyte_size]; omega) (fun i hi => ?_)
      by_cases h1 : i < n
      · rw [bt_left u _ i (by omega), hb i h1]
      · obtain rfl : i = u.size := by omega
        rw [bt_right u c (by omega), hu]; omega
    rw [e, wordsN, nextW, List.mem_flatMap]
    refine ⟨u, ih, ?_⟩
    have := extFrom_get u d 0 c (by omega)
    rw [Nat.zero_add] at this
    exact List.mem_of_getElem? this
/-- A word's letters, exchanged. -/
def exL (ls : List Int) (w : ByteArray) : List Int := (List.range w.size).map fun i => 48 + rd ls (bt w ((i : Nat) : Int) - 48)
def exW (ls : List Int) (w : ByteArray) : ByteArray := strOfNums (exL ls w)
/-- The letters are those of an alphabet, each one once. -/
structure Perm1 (D : Nat) (ls : List Int) : Prop where
  len : ls.length = D
  low : ∀ x ∈ ls, 0 ≤ x ∧ x < (D : Int)
  nd : ls.Nodup
section
variable {D : Nat} (hD : D ≤ 3) {ls : List Int} (hp : Perm1 D ls)
include hD hp
theorem ex_entry {w : ByteArray} (hw : okW D w) (i : Nat) (hi : i < w.size) : ∃ c : Nat, bt w (i : Int) - 48 = (c : Int) ∧ c < D ∧ ∃ h : c < ls.length, rd ls (bt w (i : Int) - 48) = ls[c] ∧ 0 ≤ ls[c] ∧ ls[c] < (D : Int) := by
  have _ := hD
  have a := hw i hi
  obtain ⟨c, hc⟩ : ∃ c : Nat, bt w (i : Int) - 48 = (c : Int) := ⟨(bt w (i : Int) - 48).toNat, by omega⟩
  have hl : c < ls.length := by rw [hp.len]; omega
  exact ⟨c, hc, by omega, hl, by rw [hc]; exact rd_nat _ c hl, hp.low _ (List.getElem_mem hl)⟩
theorem exL_range {w : ByteArray} (hw : okW D w) : ∀ x ∈ exL ls w, 0 ≤ x ∧ x < 256 := fun x hx => by
  obtain ⟨i, hi, rfl⟩ := List.mem_map.1 hx
  obtain ⟨c, _, _, _, e, h1, h2⟩ := ex_entry hD hp hw i (List.mem_range.1 hi)
  rw [e]; omega
theorem exW_size (w : ByteArray) : (exW ls w).size = w.size := by have _ := hD; have _ := hp; unfold exW; rw [strOf_size]; simp [exL]
theorem exW_bt {w : ByteArray} (hw : okW D w) (i : Nat) (hi : i < w.size) : bt (exW ls w) (i : Int) = 48 + rd ls (bt w (i : Int) - 48) := by
  unfold exW
  rw [bt_strOf _ (exL_range hD hp hw) i (by simpa [exL] using hi)]
  simp [exL]
theorem exW_ok {w : ByteArray} (hw : okW D w) : okW D (exW ls w) := fun i hi => by
  rw [exW_size hD hp] at hi
  obtain ⟨c, _, _, _, e, h1, h2⟩ := ex_entry hD hp hw i hi
  rw [exW_bt hD hp hw i hi, e]; omega
theorem exW_inj {v w : ByteArray} (hv : okW D v) (hw : okW D w) (h : exW ls v = exW ls w) : v = w := by
  have hs : v.size = w.size := by rw [← exW_size hD hp v, ← exW_size hD hp w, h]
  refine bt_ext v w hs (fun i hi => ?_)
  have e := exW_bt hD hp hv i hi
  rw [h, exW_bt hD hp hw i (by omega)] at e
  obtain ⟨c, c1, _, c2, c3, _⟩ := ex_entry hD hp hv i hi
  obtain ⟨c', d1, _, d2, d3, _⟩ := ex_entry hD hp hw i (by omega)
  rw [c3, d3] at e
  have : c' = c := (List.getElem_inj hp.nd).1 (by omega : ls[c'] = ls[c])
  omega
end
end Go.Proofs.Ytcklefgkbddlhaa.Pure
