/- Plain lemmas: the draws of tables and words end, and what they give is small. -/
import Derived.Test.YtkbneilobaehkaaPx4
import Derived.Test.YtkbneilobaehkaaPx12
import Derived.Test.YtkbneilobaehkaaPx16
import Derived.Test.YtkbneilobaehkaaPx18
import Derived.Test.YtkbneilobaehkaaPx3
import Derived.Test.YtkbneilobaehkaaPx1
import Derived.Laws.Bits64b
import Derived.Test.YtkbneilobaehkaaFtW
namespace Go.Proofs.Ytkbneilobaehkaa.Pure
open Go.RowKit Go.Proofs.Ytkbneilobaehkaa.P Go.Proofs.YtkbneilobaehkaaW.PrintWords Go.Proofs.YtkbneilobaehkaaW.PrintLast Go.Proofs.YtkbneilobaehkaaW.PrintMore
set_option linter.unusedVariables false
set_option linter.unusedSimpArgs false

/-- Bytes, and not too many. -/
structure Src (s : List Int) : Prop where
 bytes : ∀ v ∈ s, 0 ≤ v ∧ v ≤ 255
 len : s.length ≤ 4096
theorem rd_byte {s : List Int} (h : Src s) (x : Int) : 0 ≤ rd s x ∧ rd s x ≤ 255 := by
 unfold rd
 rw [List.getD_eq_getElem?_getD]
 by_cases hx : x.toNat < s.length
 ·simp only [hx, List.getElem?_eq_getElem, Option.getD_some]; exact h.bytes _ (List.getElem_mem hx)
 ·rw [List.getElem?_eq_none (by omega)]; simp
theorem and_small (E : Int) : 0 ≤ Go.bits .and .u64 (IntKind.u64.wrap E / 2147483648) 1073741823 ∧ Go.bits .and .u64 (IntKind.u64.wrap E / 2147483648) 1073741823 ≤ 1073741823 := by
 have hw : IntKind.u64.wrap E = E % 18446744073709551616 := by rw [IntKind.wrap_u64]
 obtain ⟨m, hm⟩ : ∃ m : Nat, IntKind.u64.wrap E / 2147483648 = (m : Int) := ⟨(IntKind.u64.wrap E / 2147483648).toNat, by rw [hw]; omega⟩
 have hm2 : m < 18446744073709551616 := by rw [hw] at hm; omega
 rw [hm]
 have := Go.bits_and_u64_nat m 1073741823 hm2 (by omega)
 have h2 : Go.bits .and .u64 (m : Int) 1073741823 = ((m &&& 1073741823 : Nat) : Int) := this
 rw [h2]
 have := @Nat.and_le_right m 1073741823
 omega
theorem tmod_small (v n : Int) (h0 : 0 ≤ v) (hn : 1 ≤ n) : 0 ≤ Int.tmod v n ∧ Int.tmod v n < n := by
 rw [Int.tmod_eq_emod_of_nonneg h0]
 exact ⟨Int.emod_nonneg _ (by omega), Int.emod_lt_of_pos _ (by omega)⟩
/-- A place in the source. -/
def At (x : Int) : Prop := 0 ≤ x ∧ x ≤ 4096
theorem next_ok {s : List Int} (h : Src s) (x y n : Int) (hx : At x) : ∃ r x' y', spec_l01Next.f s x y n = some (r, x', y') ∧ At x' ∧ 0 ≤ r ∧ (1 ≤ n → r < n) := by
 unfold spec_l01Next.f
 have hx0 := hx.1
 have hx1 := hx.2
 by_cases hn : n < 1
 ·rw [if_pos hn]; exact ⟨0, x, y, rfl, hx, Int.le_refl _, fun _ => by omega⟩
 ·rw [if_neg hn]
  have hb := and_small (IntKind.u64.wrap (y * 6364136223846793005) + 1442695040888963407)
  generalize Go.bits .and .u64 (IntKind.u64.wrap (IntKind.u64.wrap (y * 6364136223846793005) + 1442695040888963407) / 2147483648) 1073741823 = B at hb ⊢
  by_cases h2 : x < (s.length : Int)
  ·have hr := rd_byte h x
   have hl := h.len
   rw [if_pos h2, if_pos hx0, if_neg (by omega)]
   have hv : 0 ≤ wrap64 (wrap64 B + wrap64 (rd s x)) := by unfold wrap64; omega
   have ht := tmod_small _ n hv (by omega)
   exact ⟨_, _, _, rfl, ⟨by rw [wrap_of _ (by omega) (by omega)]; omega, by rw [wrap_of _ (by omega) (by omega)]; omega⟩, ht.1, fun _ => ht.2⟩
  ·rw [if_neg h2, if_neg (by omega)]
   have hv : 0 ≤ wrap64 B := by unfold wrap64; omega
   have ht := tmod_small _ n hv (by omega)
   exact ⟨_, _, _, rfl, hx, ht.1, fun _ => ht.2⟩
theorem pick_ok {s : List Int} (h : Src s) (x y : Int) (hx : At x) (l : List Int) (hl : l ≠ []) : ∃ r x' y', spec_l01Pick.f s x y l = some (r, x', y') ∧ At x' ∧ r ∈ l := by
 unfold spec_l01Pick.f
 obtain ⟨r, x', y', e, hx', h0, h1⟩ := next_ok h x y (l.length : Int) hx
 have hp : 0 < l.length := List.length_pos_iff.2 hl
 have h1 := h1 (by omega)
 rw [e, Option.bind_some, if_pos h0, if_pos h1]
 refine ⟨_, _, _, rfl, hx', ?_⟩
 obtain ⟨q, rfl⟩ : ∃ q : Nat, r = q := ⟨r.toNat, by omega⟩
 dsimp only
 rw [rd_nat l q (by omega)]
 exact List.getElem_mem _
theorem near_ok {s : List Int} (h : Src s) (x y n : Int) (hx : At x) : ∃ r x' y', spec_l01Near.f s x y n = some (r, x', y') ∧ At x' := by
 unfold spec_l01Near.f
 obtain ⟨r, x1, y1, e, hx1, h0, h1⟩ := next_ok h x y 14 hx
 rw [e, Option.bind_some]
 dsimp only
 split
 ·obtain ⟨r, x2, y2, e2, hx2, -⟩ := pick_ok h x1 y1 hx1 [-1, wrap64 (n + 1), 1099511627776, -4611686018427387904] (by simp)
  rw [e2, Option.bind_some]; exact ⟨_, _, _, rfl, hx2⟩
 ·obtain ⟨r, x2, y2, e2, hx2, -, -⟩ := next_ok h x1 y1 (wrap64 (n + 1)) hx1
  rw [e2, Option.bind_some]; exact ⟨_, _, _, rfl, hx2⟩
theorem from_l0 {s : List Int} (h : Src s) (c : List Int) (p : Int) : ∀ e k i y, i + e = s.length → e < k → ∃ y', spec_l01From.l0 k s (i : Int) c p y = some (c, p, y') := by
 intro e
 induction e with
 | zero =>
  intro k i y hi hk
  obtain ⟨k, rfl⟩ : ∃ m, k = m + 1 := ⟨k - 1, by omega⟩
  rw [spec_l01From.l0, if_neg (by omega)]; exact ⟨_, rfl⟩
 | succ e ih =>
  intro k i y hi hk
  obtain ⟨k, rfl⟩ : ∃ m, k = m + 1 := ⟨k - 1, by omega⟩
  have hl := h.len
  rw [spec_l01From.l0, if_pos (by omega), if_pos (by omega), if_pos (by omega), wrap_nat _ (by omega)]
  exact ih k (i + 1) _ (by omega) (by omega)
theorem from_ok {s : List Int} (h : Src s) (k : Nat) (hk : 5000 ≤ k) : ∃ y, spec_l01From.f k s = some (s, 0, y) := by
 have hl := h.len
 exact from_l0 h s 0 s.length k 0 _ (by omega) (by omega)
theorem rowL_ok {s : List Int} (h : Src s) (kind : Int) (i : Nat) : ∀ e j row x y, At x → ∃ r x' y', spec_l08Draw.rowL s kind i e j row x y = some (r, x', y') ∧ At x' ∧ r.length = row.length + e := by
 intro e
 induction e with
 | zero => intro j row x y hx; exact ⟨row, x, y, rfl, hx, rfl⟩
 | succ e ih =>
  intro j row x y hx
  obtain ⟨r, x1, y1, e1, hx1, -, -⟩ := next_ok h x y 5 hx
  rw [spec_l08Draw.rowL, e1, Option.bind_some]
  obtain ⟨r2, x2, y2, e2, hx2, hl⟩ := ih (j + 1) (row ++ [if (kind = 0 ∧ j ≤ i) ∨ (kind = 1 ∧ i ≠ j) then 0 else wrap64 (r - 2)]) x1 y1 hx1
  exact ⟨r2, x2, y2, e2, hx2, by rw [hl, List.length_append]; simp; omega⟩
theorem tabL_ok {s : List Int} (h : Src s) (kind : Int) (n : Nat) : ∀ e i tab x y, At x → (∀ r ∈ tab, r.length = n) → ∃ t x' y', spec_l08Draw.tabL s kind n e i tab x y = some (t, x', y') ∧ At x' ∧ t.length = tab.length + e ∧ ∀ r ∈ t, r.length = n := by
 intro e
 induction e with
 | zero => intro i tab x y hx ht; exact ⟨tab, x, y, rfl, hx, rfl, ht⟩
 | succ e ih =>
  intro i tab x y hx ht
  obtain ⟨r, x1, y1, e1, hx1, hl⟩ := rowL_ok h kind i n 0 [] x y hx
  rw [spec_l08Draw.tabL, e1, Option.bind_some]
  obtain ⟨t2, x2, y2, e2, hx2, hl2, ht2⟩ := ih (i + 1) (tab ++ [r]) x1 y1 hx1 (by
   intro r' hr'
   rcases List.mem_append.1 hr' with hr' | hr'
   ·exact ht r' hr'
   ·rw [List.mem_singleton.1 hr', hl]; simp)
  exact ⟨t2, x2, y2, e2, hx2, by rw [hl2, List.length_append]; simp; omega, ht2⟩
theorem outL_ok {s : List Int} (h : Src s) (kind : Int) (n : Nat) : ∀ e out x y, At x → (∀ t ∈ out, t.length = n ∧ ∀ r ∈ t, r.length = n) → ∃ o x' y', spec_l08Draw.outL s kind n e out x y = some (o, x', y') ∧ At x' ∧ o.length = out.length + e ∧ ∀ t ∈ o, t.length = n ∧ ∀ r ∈ t, r.length = n := by
 intro e
 induction e with
 | zero => intro out x y hx ht; exact ⟨out, x, y, rfl, hx, rfl, ht⟩
 | succ e ih =>
  intro out x y hx ht
  obtain ⟨t, x1, y1, e1, hx1, hl, hr⟩ := tabL_ok h kind n n 0 [] x y hx (by simp)
  rw [spec_l08Draw.outL, e1, Option.bind_some]
  obtain ⟨t2, x2, y2, e2, hx2, hl2, ht2⟩ := ih (out ++ [t]) x1 y1 hx1 (by
   intro t' h'
   rcases List.mem_append.1 h' with h' | h'
   ·exact ht t' h'
   ·rw [List.mem_singleton.1 h']; exact ⟨by rw [hl]; simp, hr⟩)
  exact ⟨t2, x2, y2, e2, hx2, by rw [hl2, List.length_append]; simp; omega, ht2⟩
/-- From place a on, each table has a first entry. -/
def Fst (o : List (List (List Int))) (a : Nat) : Prop := ∀ q (h : q < o.length), a ≤ q → 0 < o[q].length ∧ 0 < (rd_L3 o[q] 0).length
theorem putL_ok {s : List Int} (h : Src s) : ∀ e a (o : List (List (List Int))) x y, At x → a + e = o.length → Fst o a → ∃ o' x' y', spec_l08Draw.putL s e a o x y = some (o', x', y') ∧ At x' ∧ o'.length = o.length := by
 intro e
 induction e with
 | zero => intro a o x y hx ha hf; exact ⟨o, x, y, rfl, hx, rfl⟩
 | succ e ih =>
  intro a o x y hx ha hf
  obtain ⟨r, x1, y1, e1, hx1, -⟩ := pick_ok h x y hx [1000, -1000] (by simp)
  have hf1 := hf a (by omega) (Nat.le_refl _)
  rw [spec_l08Draw.putL, e1, Option.bind_some, rdT_nat o a (by omega), if_pos hf1]
  obtain ⟨o2, x2, y2, e2, hx2, hl2⟩ := ih (a + 1) (o.set a (o[a].set 0 ((rd_L3 o[a] 0).set 0 r))) x1 y1 hx1 (by rw [List.length_set]; omega) (by
   intro q hq haq
   rw [List.getElem_set_ne (by omega)]
   exact hf q (by rw [List.length_set] at hq; exact hq) (by omega))
  exact ⟨o2, x2, y2, e2, hx2, by rw [hl2, List.length_set]⟩
theorem fin_ok {s : List Int} (h : Src s) (n : Nat) (hn : 1 ≤ n) (o : List (List (List Int))) (ho : 1 ≤ o.length) (hs : ∀ t ∈ o, t.length = n ∧ ∀ r ∈ t, r.length = n) (c x y : Int) (hx : At x) : ∃ o' x' y', spec_l08Draw.fin s o c x y = some (o', x', y') ∧ At x' ∧ o'.length ≤ o.length + 1 := by
 have hf : Fst o 0 := by
  intro q hq _
  have := hs o[q] (List.getElem_mem hq)
  have h0 : 0 < o[q].length := by omega
  refine ⟨h0, ?_⟩
  have h1 := rdR_nat o[q] 0 h0
  rw [show rd_L3 o[q] 0 = _ from h1, this.2 _ (List.getElem_mem h0)]; omega
 unfold spec_l08Draw.fin
 split
 ·exact ⟨_, _, _, rfl, hx, by simp⟩
 ·split
  ·rw [if_pos (by omega)]; exact ⟨_, _, _, rfl, hx, by simp⟩
  ·split
   ·have h0 := (hf 0 (by omega) (Nat.le_refl _)).1
    have h1 := rdT_nat o 0 (by omega)
    rw [show rd_L4 o 0 = _ from h1, if_pos ⟨by omega, h0⟩]; exact ⟨_, _, _, rfl, hx, by simp⟩
   ·split
    ·obtain ⟨o', x', y', e, hx', hl⟩ := putL_ok h o.length 0 o x y hx (by omega) hf
     exact ⟨o', x', y', e, hx', by omega⟩
    ·exact ⟨_, _, _, rfl, hx, by omega⟩
theorem draw_ok {s : List Int} (h : Src s) (x y d : Int) (hx : At x) (h1 : 1 ≤ d) (h3 : d ≤ 3) : ∃ o x' y', spec_l08Draw.f s x y d = some (o, x', y') ∧ At x' ∧ o.length ≤ 4 := by
 unfold spec_l08Draw.f
 obtain ⟨n, x1, y1, e1, hx1, hm⟩ := pick_ok h x y hx [1, 2, 2, 3, 3, 4] (by simp)
 have hn : 1 ≤ n ∧ n ≤ 4 := by simp only [List.mem_cons, List.not_mem_nil, or_false] at hm; omega
 rw [e1, Option.bind_some, if_pos ⟨hn.1, hn.2, h1, h3⟩]
 obtain ⟨kind, x2, y2, e2, hx2, -, -⟩ := next_ok h x1 y1 4 hx1
 rw [e2, Option.bind_some]
 obtain ⟨o, x3, y3, e3, hx3, hl, ht⟩ := outL_ok h kind n.toNat d.toNat [] x2 y2 hx2 (by simp)
 rw [e3, Option.bind_some]
 obtain ⟨c, x4, y4, e4, hx4, -, -⟩ := next_ok h x3 y3 50 hx3
 rw [e4, Option.bind_some]
 simp only [List.length_nil] at hl
 obtain ⟨o', x5, y5, e5, hx5, hl5⟩ := fin_ok h n.toNat (by omega) o (by omega) ht c x4 y4 hx4
 exact ⟨o', x5, y5, e5, hx5, by omega⟩
theorem wordsN_pos (d : Nat) (hd : 1 ≤ d) : ∀ n, 0 < (wordsN d n).length := by
 intro n
 induction n with
 | zero => simp [wordsN]
 | succ n ih => rw [wordsN, nextW_length]; exact Nat.mul_pos ih hd
theorem with_ok {s : List Int} (h : Src s) (k : Nat) (hk : 30000 ≤ k) : ∃ d l w, spec_l08With.f k s = some (d, l, w) ∧ l.length ≤ 4 ∧ w.size ≤ 6 ∧ 0 ≤ d ∧ d ≤ 4 := by
 unfold spec_l08With.f
 obtain ⟨y, e⟩ := from_ok h k (by omega)
 rw [e, Option.bind_some]
 obtain ⟨d, x1, y1, e1, hx1, hm⟩ := pick_ok h 0 y ⟨by omega, by omega⟩ [1, 2, 2, 3] (by simp)
 have hd : 1 ≤ d ∧ d ≤ 3 := by simp only [List.mem_cons, List.not_mem_nil, or_false] at hm; omega
 dsimp only
 rw [e1, Option.bind_some]
 obtain ⟨l, x2, y2, e2, hx2, hl⟩ := draw_ok h x1 y1 d hx1 hd.1 hd.2
 dsimp only
 rw [e2, Option.bind_some]
 obtain ⟨n, x3, y3, e3, hx3, hn0, hn1⟩ := next_ok h x2 y2 4 hx2
 have hn1 := hn1 (by omega)
 dsimp only
 rw [e3, Option.bind_some]
 obtain ⟨d, rfl⟩ : ∃ q : Nat, d = q := ⟨d.toNat, by omega⟩
 obtain ⟨n, rfl⟩ : ∃ q : Nat, n = q := ⟨n.toNat, by omega⟩
 dsimp only
 rw [spec_l01Words_f k d n (by omega) (by omega) (by omega), Option.bind_some]
 obtain ⟨r, x4, y4, e4, hx4, hr0, hr1⟩ := next_ok h x3 y3 ((wordsN d n).length : Int) hx3
 have hp := wordsN_pos d (by omega) n
 have hr1 := hr1 (by omega)
 rw [e4, Option.bind_some, if_pos hr0, if_pos hr1]
 obtain ⟨r, rfl⟩ : ∃ q : Nat, r = q := ⟨r.toNat, by omega⟩
 have hw : (rdOf ByteArray.empty (wordsN d n) (r : Int)).size = n := by
  rw [rdOf_nat _ r (by omega)]; exact wordsN_size d n _ (List.getElem_mem _)
 dsimp only
 generalize rdOf ByteArray.empty (wordsN d n) (r : Int) = w at hw ⊢
 obtain ⟨c, x5, y5, e5, hx5, -, -⟩ := next_ok h x4 y4 30 hx4
 rw [e5, Option.bind_some]
 dsimp only
 split
 ·rw [if_pos (by omega)]; exact ⟨_, _, _, rfl, hl, by rw [ByteArray.size_append]; simp only [show (⟨#[51]⟩ : ByteArray).size = 1 from rfl]; omega, by omega, by omega⟩
 ·split
  ·exact ⟨_, _, _, rfl, hl, by simp only [show (⟨#[48, 48, 48, 48, 48, 48]⟩ : ByteArray).size = 6 from rfl]; omega, by omega, by omega⟩
  ·split
   ·obtain ⟨q, x6, y6, e6, hx6, hm6⟩ := pick_ok h x5 y5 hx5 [0, 4, 1] (by simp)
    rw [e6, Option.bind_some]
    simp only [List.mem_cons, List.not_mem_nil, or_false] at hm6
    exact ⟨_, _, _, rfl, hl, by omega, by dsimp only; omega, by dsimp only; omega⟩
   ·exact ⟨_, _, _, rfl, hl, by omega, by omega, by omega⟩
theorem drawP_ok {s : List Int} (h : Src s) (k : Nat) (hk : 30000 ≤ k) : ∃ d l w, spec_DrawProductOfWord.f k s = some (d, l, w) ∧ l.length ≤ 4 ∧ w.size ≤ 6 := by
 obtain ⟨d, l, w, e, h1, h2, -, -⟩ := with_ok h k hk
 unfold spec_DrawProductOfWord.f
 rw [e]; exact ⟨d, l, w, rfl, h1, h2⟩
theorem drawT_ok {s : List Int} (h : Src s) (k : Nat) (hk : 30000 ≤ k) : ∃ d w, spec_DrawTablesOfWord.f k s = some (d, w) ∧ w.size ≤ 6 := by
 obtain ⟨d, l, w, e, h1, h2, -, -⟩ := with_ok h k hk
 unfold spec_DrawTablesOfWord.f
 rw [e]; exact ⟨d, w, rfl, h2⟩
theorem drawV_ok {s : List Int} (h : Src s) (k : Nat) (hk : 30000 ≤ k) : ∃ d l n, spec_DrawVanishAt.f k s = some (d, l, n) ∧ l.length ≤ 4 := by
 obtain ⟨d, l, w, e, h1, h2, -, -⟩ := with_ok h k hk
 obtain ⟨y, e0⟩ := from_ok h k (by omega)
 unfold spec_DrawVanishAt.f
 rw [e0, Option.bind_some, e, Option.bind_some]
 obtain ⟨r, x1, y1, e1, hx1⟩ := near_ok h 0 y 4 ⟨by omega, by omega⟩
 dsimp only
 rw [e1, Option.bind_some]
 obtain ⟨r2, x2, y2, e2, hx2, -⟩ := pick_ok h x1 y1 hx1 [0, 1, 2, 2, 3, r] (by simp)
 dsimp only
 rw [e2, Option.bind_some]
 exact ⟨d, l, r2, rfl, h1⟩
theorem drawC_ok {s : List Int} (h : Src s) (k : Nat) (hk : 30000 ≤ k) : ∃ d l i j, spec_DrawTableCommutator.f k s = some (d, l, i, j) ∧ l.length ≤ 4 := by
 obtain ⟨d, l, w, e, h1, h2, -, -⟩ := with_ok h k hk
 obtain ⟨y, e0⟩ := from_ok h k (by omega)
 unfold spec_DrawTableCommutator.f
 rw [e0, Option.bind_some, e, Option.bind_some]
 obtain ⟨r, x1, y1, e1, hx1, -, -⟩ := next_ok h 0 y (mx d 1) ⟨by omega, by omega⟩
 dsimp only
 rw [e1, Option.bind_some]
 obtain ⟨r2, x2, y2, e2, hx2, -, -⟩ := next_ok h x1 y1 16 hx1
 dsimp only
 rw [e2, Option.bind_some]
 obtain ⟨r3, x3, y3, e3, hx3, -, -⟩ := next_ok h x2 y2 (wrap64 (mx d 1 + wrap64 (Int.tdiv r2 15))) hx2
 dsimp only
 rw [e3, Option.bind_some]
 exact ⟨d, l, r, r3, rfl, h1⟩

end Go.Proofs.Ytkbneilobaehkaa.Pure
