/- What a call of each Go function named below comes to is what the plain Lean function beside it says. Made by a program of this session out of the print of the translation; Lean checks it. -/
import Derived.Test.YtbpipmkgclkhgaaPx0
import Derived.Test.YtbpipmkgclkhgaaPx3
import Derived.Test.YtbpipmkgclkhgaaHandRows
namespace Go.Proofs.Ytbpipmkgclkhgaa.P
open Go.RowKit Go.Proofs.YtbpipmkgclkhgaaW.PrintWords Go.Proofs.YtbpipmkgclkhgaaW.PrintLast Go.Proofs.YtbpipmkgclkhgaaW.PrintMore
attribute [local go_sem] max2_int min2_int max_two min_two max_three min_three max_four min_four   -- for this text's walks alone
set_option linter.unusedVariables false
set_option linter.unusedSimpArgs false


/-! ### impl_WithoutRests: function 44, by hand -/
/-! What slices.DeleteFunc does to rows of one's own: the headers move, the rows lie as they lay. -/
abbrev impl_WithoutRests_Hdr := Option Addr × Nat × Nat
def impl_WithoutRests_sl (t : impl_WithoutRests_Hdr) : Value := .slice t.1 t.2.1 t.2.2
def impl_WithoutRests_hdr : Kd impl_WithoutRests_Hdr := Kd.scalar impl_WithoutRests_sl (fun _ => rfl)
theorem impl_WithoutRests_all : ∀ inner : List Value, (∀ u ∈ inner, ∃ t, u = impl_WithoutRests_sl t) → ∃ H : List impl_WithoutRests_Hdr, inner = H.map impl_WithoutRests_sl
  | [], _ => ⟨[], rfl⟩
  | u :: r, h => by
    obtain ⟨t, ht⟩ := h u List.mem_cons_self
    obtain ⟨H, hH⟩ := impl_WithoutRests_all r (fun x hx => h x (List.mem_cons_of_mem _ hx))
    exact ⟨t :: H, by rw [List.map_cons, ← ht, ← hH]⟩
/-- Rows apart, as their headers and their rows. -/
theorem impl_WithoutRests_open {w : World} {base : Nat} {ok : Nat → Prop} {v : Value} {l : List (List Int)} (h : Kd.S (Kd.slice 2 (Kd.int .i64)) 44 w base ok v l) : ∃ (f : Nat → Nat) (H : List impl_WithoutRests_Hdr), H.length = l.length ∧ impl_WithoutRests_hdr.R 44 w base (fun _ => True) v H ∧ (∀ k, v.ownBlock = some k → ok k) ∧ ∀ j (hj : j < l.length) (hj' : j < H.length), (Kd.int .i64).R 2 w base (fun k => (ok k ∧ some k ≠ v.ownBlock) ∧ f k = j) (impl_WithoutRests_sl H[j]) l[j] := by
  obtain ⟨f, h0, inner, ho, hr⟩ := h
  have hl : inner.length = l.length := by
    have := hr.1
    rw [List.length_zipIdx] at this
    simpa using this.trans (Nat.mul_one _)
  have hrow : ∀ j (hj : j < l.length) (hj' : j < inner.length), (Kd.int .i64).R 2 w base (fun k => (ok k ∧ some k ≠ v.ownBlock) ∧ f k = j) inner[j] l[j] := by
    intro j hj hj'
    obtain ⟨v', hv, hR⟩ := hr.2 j (l[j], j) (Kd.zip_at (List.getElem?_eq_getElem hj))
    have hv' : (inner.drop (j * 1)).take 1 = [v'] := hv
    have := congrArg (fun q : List Value => q[0]?) hv'
    simp only [List.getElem?_take, List.getElem?_drop, Nat.mul_one, Nat.add_zero, List.getElem?_cons_zero] at this
    rw [if_pos (by omega), List.getElem?_eq_getElem hj'] at this
    rw [Option.some.inj this]
    exact hR
  obtain ⟨H, hH⟩ := impl_WithoutRests_all inner (fun u hu => by
    obtain ⟨j, hj, rfl⟩ := List.getElem_of_mem hu
    obtain ⟨A, c, e⟩ := Kd.R_slice (hrow j (by omega) hj)
    exact ⟨(A, l[j].length, c), e⟩)
  subst hH
  refine ⟨f, H, by simpa using hl, Kd.R_of_own (by rw [List.length_zipIdx] at ho; rw [show H.length = l.length by simpa using hl]; exact ho) (fun _ _ => trivial), h0, fun j hj hj' => ?_⟩
  have := hrow j hj (by simpa using hj')
  rwa [List.getElem_map] at this
/-- The other way: some of the rows, none of them twice, under their headers. -/
theorem impl_WithoutRests_shut {w : World} {base : Nat} {ok : Nat → Prop} {v : Value} {l : List (List Int)} {f : Nat → Nat} {g : Nat} {K : List Nat} {H : List impl_WithoutRests_Hdr} (hR : impl_WithoutRests_hdr.R 44 w base (fun _ => True) v (K.map fun q => H.getD q (none, 0, 0))) (hg : ∀ k, v.ownBlock = some k → k = g) (hok : ok g) (hn : K.Nodup) (hK : ∀ q ∈ K, q < l.length)
    (hrow : ∀ j, j < l.length → (Kd.int .i64).R 2 w base (fun k => (ok k ∧ k ≠ g) ∧ f k = j) (impl_WithoutRests_sl (H.getD j (none, 0, 0))) (l.getD j [])) :
    Kd.S (Kd.slice 2 (Kd.int .i64)) 44 w base ok v (K.map fun q => l.getD q []) := by
  have ho := Kd.own_of_R hR
  rw [List.length_map] at ho
  have hap : ∀ (i j k : Nat), ((ok k ∧ k ≠ g) ∧ some (f k) = K[i]?) → ((ok k ∧ k ≠ g) ∧ some (f k) = K[j]?) → i = j := by
    intro i j k h1 h2
    have e := h1.2.symm.trans h2.2
    have hi : i < K.length := by
      rcases Nat.lt_or_ge i K.length with h | h
      · exact h
      · rw [List.getElem?_eq_none h] at h1; cases h1.2
    exact (List.getElem?_inj hi hn).1 e
  have hlen : (encs impl_WithoutRests_sl (K.map fun q => H.getD q (none, 0, 0))).length = (K.map fun q => l.getD q []).length * (Kd.slice 2 (Kd.int .i64)).sz := by
    rw [encs_length, List.length_map, List.length_map]
    exact (Nat.mul_one _).symm
  obtain ⟨f', hr⟩ := Kd.reps_tag (d := Kd.slice 2 (Kd.int .i64)) (w := w) (base := base) (ok := fun k => ok k ∧ k ≠ g) (fun j k => (ok k ∧ k ≠ g) ∧ some (f k) = K[j]?) hap (fun j k h => h.1) hlen (fun j x hx => by
    rw [List.getElem?_map] at hx
    obtain ⟨q, hq, rfl⟩ := Option.map_eq_some_iff.1 hx
    have hqm : q ∈ K := List.mem_of_getElem? hq
    have hj : j < K.length := (List.getElem?_eq_some_iff.1 hq).1
    refine ⟨impl_WithoutRests_sl (H.getD q (none, 0, 0)), ?_, Kd.R_mono (hrow q (hK q hqm)) (fun k hk => ⟨hk.1, by rw [hq, hk.2]⟩)⟩
    show ((encs impl_WithoutRests_sl _).drop (j * 1)).take 1 = _
    rw [Nat.mul_one, encs, List.map_map, List.drop_eq_getElem_cons (by rw [List.length_map]; exact hj), List.take_succ_cons, List.take_zero, List.getElem_map]
    have : K[j] = q := by
      have := List.getElem?_eq_getElem hj
      rw [this] at hq
      exact Option.some.inj hq
    rw [this]
    rfl)
  refine ⟨f', fun k hk => by rw [hg k hk]; exact hok, encs impl_WithoutRests_sl (K.map fun q => H.getD q (none, 0, 0)), ?_, hr.imp_ (fun p c hp => (Kd.tag f' (Kd.slice 2 (Kd.int .i64))).M_mono (fun k hk => ⟨hk.1, fun e => hk.2 (hg k e.symm)⟩) hp)⟩
  rw [List.length_zipIdx, List.length_map]
  exact ho
/-- Many headers are written, one behind the other. -/
def impl_WithoutRests_many (t : impl_WithoutRests_Hdr) : Nat → Nat → List impl_WithoutRests_Hdr → List impl_WithoutRests_Hdr
  | 0, _, H => H
  | m + 1, o, H => impl_WithoutRests_many t m (o + 1) (H.set o t)
theorem impl_WithoutRests_many_len (t : impl_WithoutRests_Hdr) : ∀ m o H, (impl_WithoutRests_many t m o H).length = H.length
  | 0, _, _ => rfl
  | m + 1, o, H => by rw [impl_WithoutRests_many, impl_WithoutRests_many_len, List.length_set]
theorem impl_WithoutRests_many_take (t : impl_WithoutRests_Hdr) : ∀ m o H i, i ≤ o → (impl_WithoutRests_many t m o H).take i = H.take i
  | 0, _, _, _, _ => rfl
  | m + 1, o, H, i, h => by rw [impl_WithoutRests_many, impl_WithoutRests_many_take t m (o + 1) _ i (by omega), List.take_set_of_le h]
theorem impl_WithoutRests_clear {base : Nat} {g n cap : Nat} {w0 : World} (t : impl_WithoutRests_Hdr) : ∀ m o (w : World) (H : List impl_WithoutRests_Hdr), impl_WithoutRests_hdr.R 44 w base (fun _ => True) (.slice (some ⟨g, 0, none⟩) n cap) H → Below w0.heap.size w0 w → w0.heap.size ≤ g →
    impl_WithoutRests_hdr.R 44 (w.setCells g o (List.replicate m (impl_WithoutRests_sl t))) base (fun _ => True) (.slice (some ⟨g, 0, none⟩) n cap) (impl_WithoutRests_many t m o H) ∧ Below w0.heap.size w0 (w.setCells g o (List.replicate m (impl_WithoutRests_sl t))) ∧ ∀ k, k ≠ g → (w.setCells g o (List.replicate m (impl_WithoutRests_sl t))).heap[k]? = w.heap[k]?
  | 0, o, w, H, h, hb, _ => ⟨h, hb, fun _ _ => rfl⟩
  | m + 1, o, w, H, h, hb, hg => by
    have h1 := Kd.R_putn h (o : Int) t
    rw [Int.toNat_natCast] at h1
    obtain ⟨a, b, c⟩ := impl_WithoutRests_clear t m (o + 1) (w.setCell ⟨g, o, none⟩ (impl_WithoutRests_sl t)) (H.set o t) h1 (below_set hb hg) hg
    rw [List.replicate_succ, World.setCells, impl_WithoutRests_many]
    exact ⟨a, b, fun k hk => (c k hk).trans (Below.heap_setCell w ⟨g, o, none⟩ (impl_WithoutRests_sl t) k hk)⟩

/-- Which of the first j rows stay. -/
def impl_WithoutRests_kept (p : List Int → Bool) (l : List (List Int)) (j : Nat) : List Nat := (List.range j).filter fun q => !(p (l.getD q []))
theorem impl_WithoutRests_kept_succ (p : List Int → Bool) (l : List (List Int)) (j : Nat) : impl_WithoutRests_kept p l (j + 1) = impl_WithoutRests_kept p l j ++ if p (l.getD j []) = true then [] else [j] := by
  unfold impl_WithoutRests_kept
  rw [List.range_succ, List.filter_append]
  congr 1
  cases h : p (l.getD j []) <;> simp only [List.filter_cons, List.filter_nil, h] <;> rfl
theorem impl_WithoutRests_kept_le (p : List Int → Bool) (l : List (List Int)) (j : Nat) : (impl_WithoutRests_kept p l j).length ≤ j := by
  have := List.length_filter_le (fun q => !(p (l.getD q []))) (List.range j)
  rwa [List.length_range] at this
theorem impl_WithoutRests_kept_lt (p : List Int → Bool) (l : List (List Int)) (j : Nat) : ∀ q ∈ impl_WithoutRests_kept p l j, q < j := by
  intro q hq
  exact List.mem_range.1 (List.mem_filter.1 hq).1
theorem impl_WithoutRests_kept_nodup (p : List Int → Bool) (l : List (List Int)) (j : Nat) : (impl_WithoutRests_kept p l j).Nodup := List.Pairwise.filter _ List.nodup_range
theorem impl_WithoutRests_kept_all (p : List Int → Bool) (l : List (List Int)) : ∀ j, j ≤ l.length → (∀ q, q < j → p (l[q]!) = false) → impl_WithoutRests_kept p l j = List.range j := by
  intro j hj h
  unfold impl_WithoutRests_kept
  rw [List.filter_eq_self]
  intro q hq
  have hq' := List.mem_range.1 hq
  have := h q hq'
  rw [getElem!_pos l q (by omega)] at this
  rw [List.getD_eq_getElem?_getD, List.getElem?_eq_getElem (by omega), Option.getD_some, this]
  rfl
theorem impl_WithoutRests_kept_filter (p : List Int → Bool) (l : List (List Int)) : (impl_WithoutRests_kept p l l.length).map (fun q => l.getD q []) = l.filter fun x => !(p x) := by
  have h : (List.range l.length).map (fun q => l.getD q []) = l := by
    apply List.ext_getElem
    · simp
    · intro i h1 h2
      simp [List.getD_eq_getElem?_getD, h2]
  unfold impl_WithoutRests_kept
  conv => rhs; rw [← h]
  rw [List.filter_map]
  rfl
theorem impl_WithoutRests_first (P : Nat → Bool) : ∀ n, (∃ q, q < n ∧ P q = true) → ∃ i, i < n ∧ P i = true ∧ ∀ q, q < i → P q = false := by
  intro n
  induction n with
  | zero => rintro ⟨q, h, _⟩; omega
  | succ n ih =>
    rintro ⟨q, h, hq⟩
    by_cases h2 : ∃ q, q < n ∧ P q = true
    · obtain ⟨i, a, b, c⟩ := ih h2
      exact ⟨i, by omega, b, c⟩
    · have hn : ∀ q, q < n → P q = false := fun q hq => by
        cases h3 : P q with
        | false => rfl
        | true => exact absurd ⟨q, hq, h3⟩ h2
      have : q = n := by
        rcases Nat.lt_or_ge q n with h4 | h4
        · rw [hn q h4] at hq; cases hq
        · omega
      subst this
      exact ⟨q, by omega, hq, hn⟩
set_option maxHeartbeats 16000000 in
set_option maxRecDepth 100000 in
theorem impl_WithoutRests_delete (g0 : Nat) (p : List Int → Bool) (v : Value) (l : List (List Int)) (w0 w : World) (eg : ∀ args w, (callFunc g0 args).run Try.prog w = .ok (.enter g0 args) w) (hp : Hand.AskRow Try.prog g0 #[] p w0) (hB : Below w0.heap.size w0 w) (ho : Kd.S (Kd.slice 2 (Kd.int .i64)) 44 w w0.heap.size (fun _ => True) v l) :
    Calls Try.prog 85 #[v, .func (.func g0) #[] #[]] w fun e w' => ∃ v0_ : Value, e = .returned v0_ ∧ Kd.S (Kd.slice 2 (Kd.int .i64)) 44 w' w0.heap.size (fun _ => True) v0_ (l.filter fun x => !(p x)) ∧ Below w0.heap.size w0 w' := by
  obtain ⟨A, c, rfl, hc⟩ := Kd.S_reads ho
  have HO := Aside0.mk ho
  have HB := Aside0.mk hB
  have HP := Aside0.mk hp
  have hbig : l.length ≤ 9223372036854775807 := Kd.C_max hc.2
  have HCL := Aside0.mk hc
  clear ho hB hp hc
  by_cases hall : ∀ q, q < l.length → p (l[q]!) = false
  · have hidx : Lib.idxBy (fun _ y => p y) l [] = (-1 : Int) := by
      have hi := Lib.idxBy_miss (fun _ y => p y) l l.length [] hall
      rwa [List.take_length] at hi
    have HI := Aside0.mk hidx
    have HF := Aside0.mk (show (l.filter fun x => !(p x)) = l from List.filter_eq_self.2 (fun x hx => by
      obtain ⟨q, hq, rfl⟩ := List.getElem_of_mem hx
      have := hall q hq
      rw [getElem!_pos l q hq] at this
      rw [this]; rfl))
    clear hidx hall
    go_enter Try.func85, Try.ntmps85
    go_wp2_with (go_at_call 113; refine (Hand.indexFunc_rows g0 #[] eg p A c l _ (fun A c x W hb => HP.out A c x W (below_step HB.out hb)) HCL.out.2).mono ?_; rw [HI.out]; rintro e w1 ⟨rfl, hb⟩)
    go_ret
    exact ⟨_, rfl, by rw [HF.out]; exact Kd.S_below HO.out hb, below_step HB.out hb⟩
  · obtain ⟨i0, hi0, hp0, hpre⟩ := impl_WithoutRests_first (fun q => p (l[q]!)) l.length (by
      refine Classical.byContradiction fun hne => hall fun q hq => ?_
      cases h3 : p (l[q]!) with
      | false => rfl
      | true => exact absurd ⟨q, hq, h3⟩ hne)
    have hidx : Lib.idxBy (fun _ y => p y) l [] = (i0 : Int) := by
      have hi := Lib.idxBy_hit (fun _ y => p y) l l.length i0 [] hi0 (Nat.le_refl _) hp0 hpre
      rwa [List.take_length] at hi
    have HI := Aside0.mk hidx
    have hk0 : impl_WithoutRests_kept p l (i0 + 1) = List.range i0 := by
      rw [impl_WithoutRests_kept_succ, impl_WithoutRests_kept_all p l i0 (by omega) hpre]
      have : p (l.getD i0 []) = true := by
        rw [List.getD_eq_getElem?_getD, List.getElem?_eq_getElem hi0, Option.getD_some]
        have := hp0
        simp only [getElem!_pos l i0 hi0] at this
        exact this
      rw [if_pos this, List.append_nil]
    obtain ⟨f, H, hHl, hR, hown, hrow⟩ := impl_WithoutRests_open HO.out
    obtain ⟨g, cap, e1, hg1, hg2, cells, hcells⟩ := Kd.R_form hR (by omega)
    injection e1 with e1 e2 e3
    subst e1 e3
    clear e2
    have hrow' : ∀ j, j < l.length → (Kd.int .i64).R 2 w w0.heap.size (fun k => (True ∧ k ≠ g) ∧ f k = j) (impl_WithoutRests_sl (H.getD j (none, 0, 0))) (l.getD j []) := by
      intro j hj
      have := hrow j hj (by omega)
      rw [List.getD_eq_getElem?_getD, List.getElem?_eq_getElem (by omega : j < H.length), Option.getD_some, List.getD_eq_getElem?_getD, List.getElem?_eq_getElem hj, Option.getD_some]
      exact Kd.R_mono this (fun k hk => ⟨⟨trivial, fun e => hk.1.2 (by rw [e]; rfl)⟩, hk.2⟩)
    have HH := Aside0.mk hR
    have HRW := Aside0.mk hrow'
    have HG := Aside0.mk hg1
    have HK0 := Aside0.mk hk0
    have HHL := Aside0.mk hHl
    have hne : ((i0 : Int) == (-1 : Int)) = false := beq_eq_false_iff_ne.mpr (by omega)
    have HI0 := Aside0.mk hi0
    clear hR hown hrow hrow' hg1 hg2 hcells hidx hall hk0 hp0 hpre HO hi0 hHl
    go_enter Try.func85, Try.ntmps85
    go_wp2_with (go_at_call 113; refine (Hand.indexFunc_rows g0 #[] eg p (some ⟨g, 0, none⟩) c l _ (fun A c x W hb => HP.out A c x W (below_step HB.out hb)) HCL.out.2).mono ?_; rw [HI.out]; rintro e w1 ⟨rfl, hb⟩; have HH1 := Aside0.mk (Kd.R_below HH.out hb); have HRW1 := Aside0.mk (fun j hj => Kd.R_below (HRW.out j hj) hb); have HB1 := Aside0.mk (below_step HB.out hb); clear hb HH HRW HB)
    go_loopg [5, 6] l.length (fun gg s5 s6 wr => ∃ (j : Nat) (Hc : List impl_WithoutRests_Hdr), i0 + 1 ≤ j ∧ j ≤ l.length ∧ l.length - j ≤ gg ∧ s5 = .int .i64 ((impl_WithoutRests_kept p l j).length : Nat) ∧ s6 = .int .i64 j ∧ Aside0 (Hc.length = l.length ∧ Hc.take (impl_WithoutRests_kept p l j).length = (impl_WithoutRests_kept p l j).map (fun q => H.getD q (none, 0, 0)) ∧ Hc.drop j = H.drop j ∧ (impl_WithoutRests_kept p l j).length < j) ∧ Aside0 (impl_WithoutRests_hdr.R 44 wr w0.heap.size (fun _ => True) (.slice (some ⟨g, 0, none⟩) l.length c) Hc) ∧ Aside0 (Below w0.heap.size w0 wr) ∧ Aside0 (∀ j, j < l.length → (Kd.int .i64).R 2 wr w0.heap.size (fun k => (True ∧ k ≠ g) ∧ f k = j) (impl_WithoutRests_sl (H.getD j (none, 0, 0))) (l.getD j [])))
    case atStart =>
      have hi0 := HI0.out
      refine ⟨i0 + 1, H, Nat.le_refl _, HI0.out, by omega, ?_, by rw [show wrap64 ((i0 : Int) + 1) = ((i0 + 1 : Nat) : Int) from by unfold wrap64; omega], ⟨HHL.out, ?_, rfl, ?_⟩, HH1, HB1, HRW1⟩
      · rw [HK0.out, List.length_range]
      · rw [HK0.out, List.length_range]
        apply List.ext_getElem
        · have := HHL.out; have := HI0.out; simp; omega
        · intro q h1 h2
          have h3 : q < H.length := by simp at h1; omega
          simp [List.getD_eq_getElem?_getD, h3]
      · rw [HK0.out, List.length_range]; omega
    case round =>
      clear HH1 HB1 HRW1
      obtain ⟨j, Hc, hj0, hj1, hg, rfl, rfl, HX, HH, HB, HRW⟩ := hrel
      have hkl := HX.out.2.2.2
      have hkl' : ((impl_WithoutRests_kept p l j).length : Int) < (l.length : Int) := by omega
      have pk : (0 ≤ ((impl_WithoutRests_kept p l j).length : Int)) = True := eq_true (by omega)
      have qk : (((impl_WithoutRests_kept p l j).length : Int) < (l.length : Int)) = True := eq_true hkl'
      by_cases hlt : j < l.length
      · have hltz : (j : Int) < (l.length : Int) := by omega
        obtain ⟨hx0, hf0⟩ := Kd.R_celln ((none, 0, 0) : impl_WithoutRests_Hdr) HH.out (j : Int) (by omega) (by omega)
        obtain ⟨hx1, hf1⟩ := Kd.R_celln ((none, 0, 0) : impl_WithoutRests_Hdr) HH.out ((impl_WithoutRests_kept p l j).length : Int) (by omega) (by omega)
        have hget : Hc.getD j (none, 0, 0) = H.getD j (none, 0, 0) := by
          have h1 : (Hc.drop j)[0]? = (H.drop j)[0]? := by rw [HX.out.2.2.1]
          simp only [List.getElem?_drop, Nat.add_zero] at h1
          rw [List.getD_eq_getElem?_getD, List.getD_eq_getElem?_getD, h1]
        have hRj := HRW.out j hlt
        rw [← hget] at hRj
        have hx0' : wr.cell? ⟨g, j, none⟩ = some (impl_WithoutRests_sl (Hc.getD j (none, 0, 0))) := hx0
        have hx1' : ∃ u, wr.cell? ⟨g, (impl_WithoutRests_kept p l j).length, none⟩ = some u := ⟨_, hx1⟩
        have hf1' : wr.frozen? ⟨g, (impl_WithoutRests_kept p l j).length, none⟩ = false := hf1
        clear hx0 hf0 hx1 hf1
        generalize ht : Hc.getD j (none, 0, 0) = t at hRj hx0' hget
        obtain ⟨At, nt, ct⟩ := t
        have hx0 : wr.cell? ⟨g, j, none⟩ = some (.slice At nt ct) := hx0'
        clear hx0'
        obtain ⟨rfl, hnc, hCC⟩ := Kd.R_reads' (show (Kd.int .i64).R 2 wr w0.heap.size (fun k => (True ∧ k ≠ g) ∧ f k = j) (.slice At nt ct) (l.getD j []) from hRj)
        have HT := Aside0.mk ht
        have HGT := Aside0.mk hget
        clear hRj ht hget
        have hsucc := impl_WithoutRests_kept_succ p l j
        generalize hrowj : l.getD j [] = row at hsucc hx0 hnc hCC HT HGT
        have HCJ := Aside0.mk (HP.out At ct row wr HB.out hCC hnc)
        have HROWJ := Aside0.mk hrowj
        clear hnc hCC hrowj
        cases hq : p row with
        | true =>
          rw [hq] at HCJ
          rw [hq, if_pos rfl, List.append_nil] at hsucc
          have HSU := Aside0.mk hsucc
          clear hsucc
          go_wp2_with (go_at_fn g0; refine (HCJ.out).mono ?_; rintro e w' ⟨rfl, hb'⟩)
          go_roundg (l.length - (j + 1))
          case measure => omega
          case rel =>
            refine ⟨j + 1, Hc, by omega, by omega, by omega, by rw [HSU.out], by go_num, ⟨HX.out.1, by rw [HSU.out]; exact HX.out.2.1, ?_, by rw [HSU.out]; omega⟩, ⟨Kd.R_below HH.out hb'⟩, ⟨below_step HB.out hb'⟩, ⟨fun j hj => Kd.R_below (HRW.out j hj) hb'⟩⟩
            have := congrArg (List.drop 1) HX.out.2.2.1
            rwa [List.drop_drop, List.drop_drop] at this
        | false =>
          rw [hq] at HCJ
          rw [hq, if_neg (by decide)] at hsucc
          have HSU := Aside0.mk hsucc
          have HKL := Aside0.mk hkl'
          clear hsucc hx1' hf1'
          go_wp2_with (first | (go_at_fn g0; refine (HCJ.out).mono ?_; rintro e w5 ⟨rfl, hb'⟩; have HH5 := Aside0.mk (Kd.R_below HH.out hb'); have HB5 := Aside0.mk (below_step HB.out hb'); have HRW5 := Aside0.mk (fun j hj => Kd.R_below (HRW.out j hj) hb'); clear hb'; obtain ⟨hx2, hf2⟩ := Kd.R_celln ((none, 0, 0) : impl_WithoutRests_Hdr) HH5.out ((impl_WithoutRests_kept p l j).length : Int) (by omega) HKL.out; rw [Int.toNat_natCast] at hx2 hf2) | ((with_reducible refine gate_store (t := 44) (p := 33) rfl ?_); refine store_event (t := 44) (p := 33) (v := ?vo) (w1 := (w5.setCell ⟨g, (impl_WithoutRests_kept p l j).length, none⟩ (.slice At row.length ct))) ?hg ?ho ?hn ?hr ?_; (case ho => rfl); (case hg => rfl); (case hn => rfl); (case hr => first | (go_simp; done) | (go_simp; rfl)); intro w6 hw; have HH6 := Aside0.mk (show impl_WithoutRests_hdr.R 44 w6 w0.heap.size (fun _ => True) (.slice (some ⟨g, 0, none⟩) l.length c) (Hc.set (impl_WithoutRests_kept p l j).length (At, row.length, ct)) from (by rw [hw]; have := Kd.R_putn HH5.out ((impl_WithoutRests_kept p l j).length : Int) ((At, row.length, ct) : impl_WithoutRests_Hdr); rwa [Int.toNat_natCast] at this)); have HB6 := Aside0.mk (show Below w0.heap.size w0 w6 from (by rw [hw]; exact below_set HB5.out HG.out)); have HRW6 := Aside0.mk (show ∀ j, j < l.length → (Kd.int .i64).R 2 w6 w0.heap.size (fun k => (True ∧ k ≠ g) ∧ f k = j) (impl_WithoutRests_sl (H.getD j (none, 0, 0))) (l.getD j []) from fun j hj => Kd.R_step (HRW5.out j hj) (fun k hk _ => by rw [hw]; exact Below.heap_setCell _ _ _ k hk.1.2)); clear hw HH5 HB5 HRW5))
          go_roundg (l.length - (j + 1))
          case measure => omega
          case rel =>
            refine ⟨j + 1, Hc.set (impl_WithoutRests_kept p l j).length (At, row.length, ct), by omega, by omega, by omega, ?_, by go_num, ⟨by rw [List.length_set]; exact HX.out.1, ?_, ?_, ?_⟩, HH6, HB6, HRW6⟩
            · rw [HSU.out, List.length_append, List.length_singleton]
              congr 1
            · rw [HSU.out, List.length_append, List.length_singleton, List.map_append, ← HX.out.2.1, List.take_succ_eq_append_getElem (by rw [List.length_set, HX.out.1]; omega), List.take_set_of_le (Nat.le_refl _), List.getElem_set_self, List.map_cons, List.map_nil, ← HGT.out]
            · have := congrArg (List.drop 1) HX.out.2.2.1
              rw [List.drop_drop, List.drop_drop] at this
              rw [List.drop_set_of_lt (by omega)]
              exact this
            · rw [HSU.out, List.length_append, List.length_singleton]; omega
      · have hltz : ¬ (j : Int) < (l.length : Int) := by omega
        obtain rfl : j = l.length := by omega
        have HZ := Aside0.mk (impl_WithoutRests_clear (base := w0.heap.size) (g := g) (n := l.length) (cap := c) (w0 := w0) (none, 0, 0) (l.length - (impl_WithoutRests_kept p l l.length).length) (impl_WithoutRests_kept p l l.length).length wr Hc HH.out HB.out HG.out)
        have hcl : ∀ (W : World) (ty : TypeId), W = wr → (Builtin.clear_ #[34] ty #[.slice (some ⟨g, (impl_WithoutRests_kept p l l.length).length, none⟩) (l.length - (impl_WithoutRests_kept p l l.length).length) (c - (impl_WithoutRests_kept p l l.length).length)]).run Try.prog W = .ok (.tuple #[]) (wr.setCells g (impl_WithoutRests_kept p l l.length).length (List.replicate (l.length - (impl_WithoutRests_kept p l l.length).length) (.slice none 0 0))) := by
          rintro W ty rfl
          refine Lib.run_clear_slice _ _ 44 ty (.slice none 0 0) Try.underlying34 ?_ rfl rfl g _ _ _ (by omega) ?_ ?_
          · intro W
            obtain ⟨i1, hi1, hz1⟩ := Option.map_eq_some_iff.1 info44
            simp only [Prod.mk.injEq] at hz1
            simp [zeroValue, typeInfo, hi1, hz1.1]
          · intro q hq
            obtain ⟨h1, _⟩ := Kd.R_celln ((none, 0, 0) : impl_WithoutRests_Hdr) HH.out (((impl_WithoutRests_kept p l l.length).length + q : Nat) : Int) (by omega) (by omega)
            rw [Int.toNat_natCast] at h1
            rw [h1]; rfl
          · intro q hq
            obtain ⟨_, h1⟩ := Kd.R_celln ((none, 0, 0) : impl_WithoutRests_Hdr) HH.out (((impl_WithoutRests_kept p l l.length).length + q : Nat) : Int) (by omega) (by omega)
            rw [Int.toNat_natCast] at h1
            exact h1
        have hkc : (impl_WithoutRests_kept p l l.length).length ≤ c := by have := HCL.out.1; omega
        have qc1 : ((impl_WithoutRests_kept p l l.length).length ≤ c) = True := eq_true hkc
        have hck : ¬ c = (impl_WithoutRests_kept p l l.length).length := by have := HCL.out.1; omega
        have qc3 : (c = (impl_WithoutRests_kept p l l.length).length) = False := eq_false hck
        have qc4 : ((impl_WithoutRests_kept p l l.length).length = c) = False := eq_false (Ne.symm hck)
        have qc2 : (((impl_WithoutRests_kept p l l.length).length : Int) ≤ (c : Int)) = True := eq_true (by omega)
        go_wp2
        go_ret
        refine ⟨_, rfl, ?_, HZ.out.2.1⟩
        rw [← impl_WithoutRests_kept_filter]
        refine impl_WithoutRests_shut (f := f) (g := g) (H := H) ?_ (fun k hk => by simpa [Value.ownBlock] using hk.symm) trivial (impl_WithoutRests_kept_nodup p l _) (fun q hq => impl_WithoutRests_kept_lt p l _ q hq) (fun j hj => Kd.R_step (HRW.out j hj) (fun k hk _ => HZ.out.2.2 k hk.1.2))
        have h1 := Kd.R_take HZ.out.1 (m := (impl_WithoutRests_kept p l l.length).length) (by rw [impl_WithoutRests_many_len, HX.out.1]; omega)
        rw [impl_WithoutRests_many_take _ _ _ _ _ (Nat.le_refl _), HX.out.2.1] at h1
        exact h1
set_option maxHeartbeats 8000000 in
set_option maxRecDepth 100000 in
theorem impl_WithoutRests_steps (A0 : Option Addr) (c0 : Nat) (l : List (List Int)) (w : World) (hr : Kd.C (Kd.slice 2 (Kd.int .i64)) w A0 l.length l) (hs : ∀ r ∈ l, r.length * 8 ≤ 140737488355328) (hl : l.length < 5864062014805) :
    Calls Try.prog 86 #[.slice A0 l.length c0, .func (.func 87) #[] #[]] w fun e w' => ∃ v0_ : Value, e = .returned v0_ ∧ Kd.S (Kd.slice 2 (Kd.int .i64)) 44 w' w.heap.size (fun k_ => w.heap.size ≤ k_) v0_ l ∧ Below w.heap.size w w' := by
  have HR := Aside0.mk hr
  have HSM := Aside0.mk hs
  have eg := enters_of Try.func87 (by kernel_rfl) rfl
  clear hr hs
  go_enter Try.func86, Try.ntmps86
  go_wp2
  go_loopg [5, 10] l.length (fun gg s5 s10 wr => ∃ i : Nat, i ≤ l.length ∧ l.length - i ≤ gg ∧ s10 = .int .i64 i ∧ Aside0 (Kd.S (Kd.slice 2 (Kd.int .i64)) 44 wr w.heap.size (fun k_ => w.heap.size ≤ k_) s5 (l.take i)) ∧ Aside0 (Below w.heap.size w wr))
  case atStart => exact ⟨0, Nat.zero_le _, by omega, rfl, ⟨Kd.S_nil _ _ _ _ _⟩, ⟨Below.refl _ _⟩⟩
  case round =>
    obtain ⟨i, hi, hg, rfl, HO, HB⟩ := hrel
    by_cases hlt : i < l.length
    · have hltz : (i : Int) < (l.length : Int) := by omega
      obtain ⟨ad, B0, b0, e1, hcell0, hb0, hC0⟩ := Hand.at_rows HR.out i (by omega) (by omega)
      cases e1
      have hcell := pw_cell_below HB.out hcell0
      have HC := Aside0.mk (Kd.C_below hC0 HB.out)
      simp only [Int.toNat_natCast] at hcell
      have hy : Hand.rdR l i = l[i] := by simp [Hand.rdR, hlt]
      rw [hy] at hcell hb0 HC
      have HF := Aside0.mk (show slices_Clone_int64_int64.f l[i] = some l[i] from if_pos (HSM.out _ (List.getElem_mem hlt)))
      have HTK := Aside0.mk (List.take_succ_eq_append_getElem hlt)
      have HL := Aside0.mk (show (l.take i).length + 1 ≤ 5864062014805 from by rw [List.length_take]; omega)
      clear hcell0 hC0 hy
      generalize l[i] = row at hcell hb0 HC HF HTK
      have HB0 := Aside0.mk hb0
      clear hb0
      go_wp2_with (first | (go_at_call 87; refine (slices_Clone_int64_int64.calls B0 b0 row row wr HC.out HB0.out HF.out).mono ?_; rintro e w5 ⟨v17, rfl, ho0, hb⟩; have HV := Aside0.mk (show (Kd.int .i64).R 2 w5 w.heap.size (fun k_ => wr.heap.size ≤ k_) v17 row from Kd.R_lower (Kd.R_mono (Kd.R_bound ho0) (fun k_ hk_ => hk_.2.1)) HB.out.size); have HX := Aside0.mk (Kd.S_old HO.out hb); have HB2 := Aside0.mk (below_step HB.out hb); have HLT := Aside0.mk (Kd.S_lt HO.out); clear ho0 hb HO; obtain ⟨Aq, cq, eq0⟩ := Kd.R_slice HV.out; subst eq0) | ((with_reducible refine gate_builtin (b := .append) (xs := #[.tmp 14, .tmp 18]) rfl ?_); at_builtin; refine Kd.S_append (Kd.slice 2 (Kd.int .i64)) (w0 := w) w.heap.size rfl (.tmp 14) (.tmp 18) 34 44 (.slice none 0 0) 24 rfl Try.underlying34 info44 rfl (by decide) (by omega) u5 (l.take i) row [.slice Aq row.length cq] (fun k_ => w.heap.size ≤ k_) (fun k_ => wr.heap.size ≤ k_) rfl rfl ⟨_, rfl, HV.out⟩ (fun k_ hk_ => ⟨Nat.le_trans HB.out.size hk_, fun e_ => by have := HLT.out k_ e_.symm; have hk' : wr.heap.size ≤ k_ := hk_; omega⟩) (fun k_ hk_ => Nat.le_trans HB2.out.size hk_) (Kd.S_mono HX.out (fun k_ hk_ => ⟨hk_.1, Nat.not_le.mpr hk_.2⟩)) HB2.out HB2.out.size (by have := HL.out; omega) ?_; intro v1 w6 ho hb hg_ hat; have HO := Aside0.mk ho; have HB3 := Aside0.mk hb; clear ho hb hg_ hat))
      go_roundg (l.length - (i + 1))
      case measure => omega
      case rel => exact ⟨i + 1, by omega, by omega, by go_num, ⟨by rw [HTK.out]; exact HO.out⟩, HB3⟩
    · have hltz : ¬ (i : Int) < (l.length : Int) := by omega
      obtain rfl : i = l.length := by omega
      go_wp2
      go_ret
      refine ⟨_, rfl, ?_, HB.out⟩
      have := HO.out
      rwa [List.take_length] at this
/-- Is a row a rest? -/
def impl_WithoutRests_rest (x : List Int) : Bool := !(x.any fun n => !(Hand.upToB n 0))
theorem impl_WithoutRests_ask (w : World) : Hand.AskRow Try.prog 88 #[] impl_WithoutRests_rest w := by
  intro A c x W _ hC hx
  exact impl_isRest.calls A c x (impl_WithoutRests_rest x) W hC hx rfl
/-- The rows that are no rests, or a code. -/
def impl_WithoutRests.f (_k : Nat) (a0 : Int) (l1 : List (List Int)) : Option (List (List Int) × Int) := (impl_IsPath.f a0 l1).bind fun t => if t = true then (if (∀ r ∈ l1, r.length * 8 ≤ 140737488355328) ∧ l1.length < 5864062014805 then some (l1.filter fun x => !(impl_WithoutRests_rest x), 0) else none) else some ([], 1)
set_option maxHeartbeats 8000000 in
set_option maxRecDepth 100000 in
theorem impl_WithoutRests.callsS (k : Nat) (a0 : Int) (A1 : Option Addr) (c1 : Nat) (l1 : List (List Int)) (r1 : List (List Int)) (r2 : Int) (w : World) (hr1 : Kd.C (Kd.slice 2 (Kd.int .i64)) w A1 l1.length l1) (hc1 : l1.length ≤ c1) (h : impl_WithoutRests.f k a0 l1 = some (r1, r2)) :
    Calls Try.prog 44 #[.int .i64 a0, .slice A1 l1.length c1] w fun e w' => ∃ v0_ : Value, e = .returned (.tuple #[v0_, .int .i64 r2]) ∧ Kd.S (Kd.slice 2 (Kd.int .i64)) 44 w' w.heap.size (fun _ => True) v0_ r1 ∧ Below w.heap.size w w' := by
  have HR := Aside0.mk hr1
  have HC := Aside0.mk hc1
  clear hr1 hc1
  unfold impl_WithoutRests.f at h
  obtain ⟨t, e1, h⟩ := Option.bind_eq_some_iff.mp h
  have E1 := Aside0.mk e1
  clear e1
  cases t with
  | false =>
    rw [if_neg (by decide)] at h
    simp only [Option.some.injEq, Prod.mk.injEq] at h
    obtain ⟨rfl, rfl⟩ := h
    go_enter Try.func44, Try.ntmps44
    go_wp2_with (go_at_call 84; refine (impl_IsPath.calls a0 A1 c1 l1 false _ HR.out HC.out E1.out).mono ?_; rintro e w1 ⟨rfl, hb⟩)
    go_ret2
    exact ⟨_, rfl, Kd.S_nil _ _ _ _ _, hb⟩
  | true =>
    rw [if_pos rfl] at h
    split at h
    next hc =>
      simp only [Option.some.injEq, Prod.mk.injEq] at h
      obtain ⟨rfl, rfl⟩ := h
      have HK := Aside0.mk hc
      have eg := enters_of Try.func88 (by kernel_rfl) rfl
      clear hc
      go_enter Try.func44, Try.ntmps44
      go_wp2_with (first | (go_at_call 84; refine (impl_IsPath.calls a0 A1 c1 l1 true _ HR.out HC.out E1.out).mono ?_; rintro e w1 ⟨rfl, hb⟩; have HB := Aside0.mk hb; clear hb) | (go_at_call 86; refine (impl_WithoutRests_steps A1 c1 l1 _ (Kd.C_below HR.out HB.out) HK.out.1 HK.out.2).mono ?_; rintro e w2 ⟨v2, rfl, ho, hb⟩; have HO := Aside0.mk (Kd.S_lower (Kd.S_mono (ok' := fun _ => True) ho (fun _ _ => trivial)) HB.out.size); have HB2 := Aside0.mk (below_step HB.out hb); clear ho hb) | (go_at_call 85; refine (impl_WithoutRests_delete 88 impl_WithoutRests_rest v2 l1 w _ eg (impl_WithoutRests_ask w) HB2.out HO.out).mono ?_; rintro e w3 ⟨v3, rfl, ho, hb⟩; have HO3 := Aside0.mk ho; have HB3 := Aside0.mk hb; clear ho hb))
      go_ret2
      exact ⟨_, rfl, HO3.out, HB3.out⟩
    next => exact absurd h (by simp)


end Go.Proofs.Ytbpipmkgclkhgaa.P
