/- What a call of impl.ExchangeLetters comes to. -/
import Derived.Test.YtcklefgkbddlhaaPx12
import Derived.Test.YtcklefgkbddlhaaPx13
import Derived.Lib.ConvBytes
import Derived.Test.YtcklefgkbddlhaaTabE
import Derived.Test.YtcklefgkbddlhaaTabI
namespace Go.Proofs.Ytcklefgkbddlhaa.Tab
open Go.RowKit Go.Proofs.Ytcklefgkbddlhaa.P Go.Proofs.YtcklefgkbddlhaaW.PrintWords Go.Proofs.YtcklefgkbddlhaaW.PrintLast Go.Proofs.YtcklefgkbddlhaaW.PrintMore
set_option linter.unusedVariables false
set_option linter.unusedSimpArgs false

/-- Bytes in a block that a conversion has made. -/
def Byt (w : World) (g : Nat) (xs : List Int) : Prop := ∃ cs n, w.heap[g]? = some (.cells cs 5 (n, n + 1)) ∧ cs.size = n ∧ xs.length ≤ n ∧ ∀ j, j < xs.length → cs[j]? = some (.int .u8 (rd xs (j : Int)))
theorem Byt.lt {w : World} {g : Nat} {xs : List Int} (h : Byt w g xs) : g < w.heap.size := by
  obtain ⟨cs, n, h1, _⟩ := h
  exact (Array.getElem?_eq_some_iff.1 h1).1
theorem Byt.move {w w1 : World} {g : Nat} {xs : List Int} (h : Byt w g xs) (hb : w1.heap[g]? = w.heap[g]?) : Byt w1 g xs := by
  obtain ⟨cs, n, h1, h2⟩ := h
  exact ⟨cs, n, hb.trans h1, h2⟩
theorem Byt.cell {w : World} {g : Nat} {xs : List Int} (h : Byt w g xs) (j : Nat) (hj : j < xs.length) : w.cell? ⟨g, j, none⟩ = some (.int .u8 (rd xs (j : Int))) ∧ w.frozen? ⟨g, j, none⟩ = false := by
  obtain ⟨cs, n, h1, h2, h3, h4⟩ := h
  refine ⟨?_, ?_⟩
  · simp only [World.cell?, h1]
    exact h4 j hj
  · simp only [World.frozen?, h1]
    simp
    omega
theorem Byt.put {w : World} {g : Nat} {xs : List Int} (h : Byt w g xs) (j : Nat) (hj : j < xs.length) (b : Int) : Byt (w.setCell ⟨g, j, none⟩ (.int .u8 b)) g (xs.set j b) := by
  obtain ⟨cs, n, h1, h2, h3, h4⟩ := h
  refine ⟨cs.set! j (.int .u8 b), n, ?_, by simpa using h2, by simpa using h3, fun i hi => ?_⟩
  · have hlt := (Array.getElem?_eq_some_iff.1 h1).1
    simp [World.setCell, Array.getElem?_modify, h1]
  · rw [List.length_set] at hi
    by_cases e : i = j
    · subst e
      simp [rd, List.getD_eq_getElem?_getD, hj, show i < cs.size by omega]
    · have := h4 i hi
      simp [rd, List.getD_eq_getElem?_getD, List.getElem?_set, Ne.symm e, Array.getElem?_setIfInBounds] at this ⊢
      exact this
/-- The bytes of a text. -/
def strB (s : ByteArray) : List Int := s.data.toList.map fun b => (b.toNat : Int)
theorem strB_length (s : ByteArray) : (strB s).length = s.size := by simp [strB]
theorem Byt.new (w : World) (s : ByteArray) : Byt (Go.Lib.bytesWorld w 5 s) w.heap.size (strB s) := by
  refine ⟨_, _, Go.Lib.bytesWorld_at_new w 5 s, rfl, ?_, fun j hj => ?_⟩
  · rw [strB_length]
    simp [Go.Lib.bytesCells]
  · rw [strB_length] at hj
    have h := Go.Lib.bytesWorld_cell w 5 s j hj
    simp only [World.cell?, Go.Lib.bytesWorld_at_new] at h
    rw [if_neg (by decide)] at h
    rw [h]
    have hj2 : j < s.data.toList.length := by simpa using hj
    simp [rd, strB, List.getD_eq_getElem?_getD, List.getElem?_eq_getElem hj2]
theorem bytes_below (w : World) (s : ByteArray) : Below w.heap.size w (Go.Lib.bytesWorld w 5 s) := ⟨rfl, rfl, rfl, by rw [Go.Lib.bytesWorld_size]; omega, fun k hk => Go.Lib.bytesWorld_at_old w 5 s k hk⟩
theorem Byt.string {w : World} {g : Nat} {xs : List Int} (h : Byt w g xs) (cap : Nat) : (convert 112 9 (.slice (some ⟨g, 0, none⟩) xs.length cap)).run Try.prog w = .ok (.string (strOfNums xs)) w := by
  refine run_convert_bytes_arg w 112 5 Try.underlying112 Try.underlying5 g 0 xs.length cap xs rfl (fun i hi => ?_) 9 Try.underlying9
  rw [Nat.zero_add]
  have := (h.cell i hi).1
  simp only [rd, Int.toNat_natCast] at this
  exact this
/-- The bytes with the letters exchanged, from a place on. -/
def bytesX (ls : List Int) : Nat → Nat → List Int → Option (List Int)
  | 0, _, xs => some xs
  | e + 1, i, xs => if (rd xs (i : Int) - 48) % 256 < (ls.length : Int) then bytesX ls e (i + 1) (xs.set i ((48 + rd ls ((rd xs (i : Int) - 48) % 256)) % 256)) else none
/-- The values and the mark behind the terms. -/
def exchT (k : Nat) (d : Int) (ls : List Int) : List S89 → List S27 → Bool → Option (List S27 × Bool)
  | [], vs, bad => some (vs, bad)
  | t :: l, vs, bad => (bytesX ls t.f0.size 0 (strB t.f0)).bind fun xs => if xs.length = t.f0.size ∧ t.f0.size ≤ 1000000 then (impl_number.f k d (strOfNums xs)).bind fun i => if 0 ≤ i ∧ i < (vs.length : Int) then
      (impl_Fraction_plus.f k (rd_T27 vs i).f0 (rd_T27 vs i).f1 t.f1.f0 t.f1.f1).bind fun s => exchT k d ls l (addV vs i.toNat s.1 s.2.1 s.2.2) (bad || !s.2.2)
    else none else none
/-- Are all letters met? -/
def contL (k : Nat) (ls : List Int) : Nat → Nat → Option Bool
  | 0, _ => some true
  | e + 1, i => (slices_Contains_int64_int64.f k ls (i : Int)).bind fun b => if b = true then contL k ls e (i + 1) else some false
/-- The series with the letters exchanged, and the code. -/
def ExchangeLetters_f (k : Nat) (a0 a1 : Int) (l : List S89) (ls : List Int) : Option (Int × Int × List S89 × Int) :=
  (impl_IsSeries.f k a0 a1 l).bind fun b1 => if b1 = true then if (ls.length : Int) = a0 then (contL k ls ls.length 0).bind fun b2 => if b2 = true then
    (impl_allWords.f k a0 a1).bind fun ws => if 1 ≤ ws.length ∧ ws.length ≤ 1000 then (exchT k a0 ls l (List.replicate ws.length ⟨0, 1⟩) false).bind fun r => if r.1.length = ws.length then some (toldOf a0 a1 ws r.1 r.2) else none else none
    else some (0, 0, [], 2) else some (0, 0, [], 2) else some (0, 0, [], 1)
theorem addV_lengthX (vs : List S27) (i : Nat) (s0 s1 : Int) (fits : Bool) : (addV vs i s0 s1 fits).length = vs.length := by rw [addV, List.length_set]
set_option maxHeartbeats 16000000 in
set_option maxRecDepth 100000 in
theorem ExchangeLetters_calls (k : Nat) (a0 a1 : Int) (A : Option Addr) (c : Nat) (l : List S89) (A2 : Option Addr) (c2 : Nat) (ls : List Int) (t1 t2 : Int) (t3 : List S89) (t4 : Int) (w : World) (hr : Kd.C k89 w A l.length l) (hc : l.length ≤ c) (hr2 : Kd.C (Kd.int .i64) w A2 ls.length ls) (hc2 : ls.length ≤ c2) (h : ExchangeLetters_f k a0 a1 l ls = some (t1, t2, t3, t4)) :
    Calls Try.prog 42 #[.agg #[.int .i64 a0, .int .i64 a1, .slice A l.length c], .slice A2 ls.length c2] w fun e w' => ∃ v2_ : Value, e = .returned (.tuple #[.agg #[.int .i64 t1, .int .i64 t2, v2_], .int .i64 t4]) ∧ Kd.R k89 89 w' w.heap.size (fun _ => True) v2_ t3 ∧ Below w.heap.size w w' := by
  have hbig : l.length ≤ 9223372036854775807 := Kd.C_max hr
  have hbig2 : ls.length ≤ 9223372036854775807 := Kd.C_max hr2
  have HR := Aside0.mk hr
  have HC := Aside0.mk hc
  have HR2 := Aside0.mk hr2
  have HC2 := Aside0.mk hc2
  clear hr hc hr2 hc2
  unfold ExchangeLetters_f at h
  obtain ⟨b1, A1, h⟩ := Option.bind_eq_some_iff.mp h
  have A1 := Aside0.mk A1
  have B0 := Aside0.mk (below_alloc (below_alloc (Below.refl w.heap.size w) (.cells #[.int .i64 a0, .int .i64 a1, .slice A l.length c] 32)) (.cells #[.int .i64 0, .int .i64 0, .slice none 0 0] 32))
  have X0 := Aside0.mk (blk_alloc (blk_new w (.cells #[.int .i64 a0, .int .i64 a1, .slice A l.length c] 32)) (.cells #[.int .i64 0, .int .i64 0, .slice none 0 0] 32))
  have R0 := Aside0.mk (blk_new2 w (.cells #[.int .i64 a0, .int .i64 a1, .slice A l.length c] 32) (.cells #[.int .i64 0, .int .i64 0, .slice none 0 0] 32))
  have y0 : ((w.alloc (.cells #[.int .i64 a0, .int .i64 a1, .slice A l.length c] 32)).alloc (.cells #[.int .i64 0, .int .i64 0, .slice none 0 0] 32)).cell? ⟨w.heap.size, 0, none⟩ = some (.int .i64 a0) := (blk_cell X0.out 0).trans rfl
  have y1 : ((w.alloc (.cells #[.int .i64 a0, .int .i64 a1, .slice A l.length c] 32)).alloc (.cells #[.int .i64 0, .int .i64 0, .slice none 0 0] 32)).cell? ⟨w.heap.size, 1, none⟩ = some (.int .i64 a1) := (blk_cell X0.out 1).trans rfl
  have y2 : ((w.alloc (.cells #[.int .i64 a0, .int .i64 a1, .slice A l.length c] 32)).alloc (.cells #[.int .i64 0, .int .i64 0, .slice none 0 0] 32)).cell? ⟨w.heap.size, 2, none⟩ = some (.slice A l.length c) := (blk_cell X0.out 2).trans rfl
  have r0 : ((w.alloc (.cells #[.int .i64 a0, .int .i64 a1, .slice A l.length c] 32)).alloc (.cells #[.int .i64 0, .int .i64 0, .slice none 0 0] 32)).cell? ⟨w.heap.size + 1, 0, none⟩ = some (.int .i64 0) := (blk_cell R0.out 0).trans rfl
  have r1 : ((w.alloc (.cells #[.int .i64 a0, .int .i64 a1, .slice A l.length c] 32)).alloc (.cells #[.int .i64 0, .int .i64 0, .slice none 0 0] 32)).cell? ⟨w.heap.size + 1, 1, none⟩ = some (.int .i64 0) := (blk_cell R0.out 1).trans rfl
  have r2 : ((w.alloc (.cells #[.int .i64 a0, .int .i64 a1, .slice A l.length c] 32)).alloc (.cells #[.int .i64 0, .int .i64 0, .slice none 0 0] 32)).cell? ⟨w.heap.size + 1, 2, none⟩ = some (.slice none 0 0) := (blk_cell R0.out 2).trans rfl
  have f0 := blk_frozen R0.out 0
  have f1 := blk_frozen R0.out 1
  have f2 := blk_frozen R0.out 2
  cases b1 with
  | false =>
    rw [if_neg (by simp)] at h
    cases h
    go_enter Try.func42, Try.ntmps42
    go_wp2_with (first | (go_at_call 57; refine (impl_IsSeries.calls k _ _ _ c l false _ (Kd.C_below HR.out B0.out) HC.out A1.out).mono ?_; rintro e1 w1 ⟨rfl, hb⟩; have X1 := Aside0.mk ((hb.block w.heap.size (blk_lt X0.out)).trans X0.out); have R1 := Aside0.mk ((hb.block (w.heap.size + 1) (blk_lt R0.out)).trans R0.out); have B1 := Aside0.mk (below_step B0.out hb); clear hb; clear y0 y1 y2 r0 r1 r2 f0 f1 f2; have y0 : w1.cell? ⟨w.heap.size, 0, none⟩ = some (.int .i64 a0) := (blk_cell X1.out 0).trans rfl; have y1 : w1.cell? ⟨w.heap.size, 1, none⟩ = some (.int .i64 a1) := (blk_cell X1.out 1).trans rfl; have y2 : w1.cell? ⟨w.heap.size, 2, none⟩ = some (.slice A l.length c) := (blk_cell X1.out 2).trans rfl; have r0 : w1.cell? ⟨w.heap.size + 1, 0, none⟩ = some (.int .i64 0) := (blk_cell R1.out 0).trans rfl; have r1 : w1.cell? ⟨w.heap.size + 1, 1, none⟩ = some (.int .i64 0) := (blk_cell R1.out 1).trans rfl; have r2 : w1.cell? ⟨w.heap.size + 1, 2, none⟩ = some (.slice none 0 0) := (blk_cell R1.out 2).trans rfl; have f0 := blk_frozen R1.out 0; have f1 := blk_frozen R1.out 1; have f2 := blk_frozen R1.out 2))
    have q0 := R1.out
    have q1 := blk_put (cs' := #[.int .i64 0, .int .i64 0, .slice none 0 0]) q0 0 (.int .i64 0) rfl
    have q2 := blk_put (cs' := #[.int .i64 0, .int .i64 0, .slice none 0 0]) q1 1 (.int .i64 0) rfl
    refine bodyPost_ret (results_list (rs := [.cell 4 32, .tmp 5]) (vs := [.agg #[.int .i64 0, .int .i64 0, .slice none 0 0], .int .i64 1]) rfl (show (2 : Nat) ≠ 1 from by decide) (.cell (w.heap.size + 1) 32 #[.int .i64 0, .int .i64 0, .slice none 0 0] (0, 0) _ rfl (blk_put q2 2 _ rfl) Try.underlying32 rfl (by kernel_rfl) (.tmp .nil))) rfl ?_
    exact ⟨_, rfl, Kd.R_nil _ _ _ _ _, below_set (below_set (below_set B1.out (by omega)) (by omega)) (by omega)⟩
  | true =>
    rw [if_pos rfl] at h
    by_cases hlen : (ls.length : Int) = a0
    · rw [if_pos hlen] at h
      have n1 : ((ls.length : Int) != a0) = false := bne_eq_false_iff_eq.mpr hlen
      obtain ⟨b2, A2_, h⟩ := Option.bind_eq_some_iff.mp h
      have A2_ := Aside0.mk A2_
      cases b2 with
      | false =>
        rw [if_neg (by simp)] at h
        cases h
        go_enter Try.func42, Try.ntmps42
        go_wp2_with (first | (go_at_call 57; refine (impl_IsSeries.calls k _ _ _ c l true _ (Kd.C_below HR.out B0.out) HC.out A1.out).mono ?_; rintro e1 w1 ⟨rfl, hb⟩; have X1 := Aside0.mk ((hb.block w.heap.size (blk_lt X0.out)).trans X0.out); have R1 := Aside0.mk ((hb.block (w.heap.size + 1) (blk_lt R0.out)).trans R0.out); have B1 := Aside0.mk (below_step B0.out hb); clear hb; clear y0 y1 y2 r0 r1 r2 f0 f1 f2; have y0 : w1.cell? ⟨w.heap.size, 0, none⟩ = some (.int .i64 a0) := (blk_cell X1.out 0).trans rfl; have y1 : w1.cell? ⟨w.heap.size, 1, none⟩ = some (.int .i64 a1) := (blk_cell X1.out 1).trans rfl; have y2 : w1.cell? ⟨w.heap.size, 2, none⟩ = some (.slice A l.length c) := (blk_cell X1.out 2).trans rfl; have r0 : w1.cell? ⟨w.heap.size + 1, 0, none⟩ = some (.int .i64 0) := (blk_cell R1.out 0).trans rfl; have r1 : w1.cell? ⟨w.heap.size + 1, 1, none⟩ = some (.int .i64 0) := (blk_cell R1.out 1).trans rfl; have r2 : w1.cell? ⟨w.heap.size + 1, 2, none⟩ = some (.slice none 0 0) := (blk_cell R1.out 2).trans rfl; have f0 := blk_frozen R1.out 0; have f1 := blk_frozen R1.out 1; have f2 := blk_frozen R1.out 2))
        go_loopw [25] (fun s25 wr => ∃ (i : Nat), i ≤ ls.length ∧ s25 = .int .i64 i ∧ Aside0 (contL k ls (ls.length - i) i = some false) ∧ Aside0 (wr.heap[w.heap.size]? = some (.cells #[.int .i64 a0, .int .i64 a1, .slice A l.length c] 32 (0, 0))) ∧ Aside0 (wr.heap[w.heap.size + 1]? = some (.cells #[.int .i64 0, .int .i64 0, .slice none 0 0] 32 (0, 0))) ∧ Aside0 (Below w.heap.size w wr)) (fun s25 _ => ls.length - (intOf s25).toNat)
        case atStart => exact ⟨0, Nat.zero_le _, rfl, A2_, X1, R1, B1⟩
        case round =>
          clear A2_ X1 R1 B1
          clear y0 y1 y2 r0 r1 r2 f0 f1 f2
          obtain ⟨i, hi, rfl, H, X1, R1, B1⟩ := hrel
          have H := H.out
          by_cases hlt : i < ls.length
          · have hltz : (i : Int) < a0 := by omega
            have p1 : ((i : Int) < a0) = True := eq_true hltz
            have b1 : decide ((i : Int) < a0) = true := decide_eq_true hltz
            obtain ⟨e', he'⟩ : ∃ e', ls.length - i = e' + 1 := ⟨ls.length - i - 1, by omega⟩
            rw [he'] at H
            simp only [contL] at H
            obtain ⟨b, AB, H⟩ := Option.bind_eq_some_iff.mp H
            have AB := Aside0.mk AB
            have y0 : wr.cell? ⟨w.heap.size, 0, none⟩ = some (.int .i64 a0) := (blk_cell X1.out 0).trans rfl; have y1 : wr.cell? ⟨w.heap.size, 1, none⟩ = some (.int .i64 a1) := (blk_cell X1.out 1).trans rfl; have y2 : wr.cell? ⟨w.heap.size, 2, none⟩ = some (.slice A l.length c) := (blk_cell X1.out 2).trans rfl; have r0 : wr.cell? ⟨w.heap.size + 1, 0, none⟩ = some (.int .i64 0) := (blk_cell R1.out 0).trans rfl; have r1 : wr.cell? ⟨w.heap.size + 1, 1, none⟩ = some (.int .i64 0) := (blk_cell R1.out 1).trans rfl; have r2 : wr.cell? ⟨w.heap.size + 1, 2, none⟩ = some (.slice none 0 0) := (blk_cell R1.out 2).trans rfl; have f0 := blk_frozen R1.out 0; have f1 := blk_frozen R1.out 1; have f2 := blk_frozen R1.out 2
            cases b with
            | true =>
              rw [if_pos rfl, show e' = ls.length - (i + 1) from by omega] at H
              have HN := Aside0.mk H
              clear H
              go_wp2_with (go_at_call 94; refine (slices_Contains_int64_int64.calls k _ c2 ls (i : Int) true _ (Kd.C_below HR2.out B1.out) HC2.out AB.out).mono ?_; rintro e2 w2 ⟨rfl, hd⟩; have hb := of_drawn hd; have X2 := Aside0.mk ((hb.block w.heap.size (blk_lt X1.out)).trans X1.out); have R2 := Aside0.mk ((hb.block (w.heap.size + 1) (blk_lt R1.out)).trans R1.out); have B2 := Aside0.mk (below_step B1.out hb); clear hb hd)
              exact ⟨⟨i + 1, by omega, by go_num, HN, X2, R2, B2⟩, by simp [intOf]; omega⟩
            | false =>
              go_wp2_with (go_at_call 94; refine (slices_Contains_int64_int64.calls k _ c2 ls (i : Int) false _ (Kd.C_below HR2.out B1.out) HC2.out AB.out).mono ?_; rintro e2 w2 ⟨rfl, hd⟩; have hb := of_drawn hd; have X2 := Aside0.mk ((hb.block w.heap.size (blk_lt X1.out)).trans X1.out); have R2 := Aside0.mk ((hb.block (w.heap.size + 1) (blk_lt R1.out)).trans R1.out); have B2 := Aside0.mk (below_step B1.out hb); clear hb hd; clear y0 y1 y2 r0 r1 r2 f0 f1 f2; have y0 : w2.cell? ⟨w.heap.size, 0, none⟩ = some (.int .i64 a0) := (blk_cell X2.out 0).trans rfl; have y1 : w2.cell? ⟨w.heap.size, 1, none⟩ = some (.int .i64 a1) := (blk_cell X2.out 1).trans rfl; have y2 : w2.cell? ⟨w.heap.size, 2, none⟩ = some (.slice A l.length c) := (blk_cell X2.out 2).trans rfl; have r0 : w2.cell? ⟨w.heap.size + 1, 0, none⟩ = some (.int .i64 0) := (blk_cell R2.out 0).trans rfl; have r1 : w2.cell? ⟨w.heap.size + 1, 1, none⟩ = some (.int .i64 0) := (blk_cell R2.out 1).trans rfl; have r2 : w2.cell? ⟨w.heap.size + 1, 2, none⟩ = some (.slice none 0 0) := (blk_cell R2.out 2).trans rfl; have f0 := blk_frozen R2.out 0; have f1 := blk_frozen R2.out 1; have f2 := blk_frozen R2.out 2)
              have q0 := R2.out
              have q1 := blk_put (cs' := #[.int .i64 0, .int .i64 0, .slice none 0 0]) q0 0 (.int .i64 0) rfl
              have q2 := blk_put (cs' := #[.int .i64 0, .int .i64 0, .slice none 0 0]) q1 1 (.int .i64 0) rfl
              refine bodyPost_ret (results_list (rs := [.cell 4 32, .tmp 5]) (vs := [.agg #[.int .i64 0, .int .i64 0, .slice none 0 0], .int .i64 2]) rfl (show (2 : Nat) ≠ 1 from by decide) (.cell (w.heap.size + 1) 32 #[.int .i64 0, .int .i64 0, .slice none 0 0] (0, 0) _ rfl (blk_put q2 2 _ rfl) Try.underlying32 rfl (by kernel_rfl) (.tmp .nil))) rfl ?_
              exact ⟨_, rfl, Kd.R_nil _ _ _ _ _, below_set (below_set (below_set B2.out (by omega)) (by omega)) (by omega)⟩
          · rw [show ls.length - i = 0 from by omega] at H
            simp [contL] at H
      | true =>
        rw [if_pos rfl] at h
        obtain ⟨ws, A4, h⟩ := Option.bind_eq_some_iff.mp h
        have A4 := Aside0.mk A4
        by_cases hws : 1 ≤ ws.length ∧ ws.length ≤ 1000
        · rw [if_pos hws] at h
          obtain ⟨⟨vs9, bad9⟩, A5, h⟩ := Option.bind_eq_some_iff.mp h
          have A5 := Aside0.mk A5
          by_cases hvl : vs9.length = ws.length
          · rw [if_pos hvl] at h
            have HTO := Aside0.mk (Option.some.inj h)
            clear h
            go_enter Try.func42, Try.ntmps42
            go_wp2_with (first | (go_at_call 57; refine (impl_IsSeries.calls k _ _ _ c l true _ (Kd.C_below HR.out B0.out) HC.out A1.out).mono ?_; rintro e1 w1 ⟨rfl, hb⟩; have X1 := Aside0.mk ((hb.block w.heap.size (blk_lt X0.out)).trans X0.out); have R1 := Aside0.mk ((hb.block (w.heap.size + 1) (blk_lt R0.out)).trans R0.out); have B1 := Aside0.mk (below_step B0.out hb); clear hb; clear y0 y1 y2 r0 r1 r2 f0 f1 f2; have y0 : w1.cell? ⟨w.heap.size, 0, none⟩ = some (.int .i64 a0) := (blk_cell X1.out 0).trans rfl; have y1 : w1.cell? ⟨w.heap.size, 1, none⟩ = some (.int .i64 a1) := (blk_cell X1.out 1).trans rfl; have y2 : w1.cell? ⟨w.heap.size, 2, none⟩ = some (.slice A l.length c) := (blk_cell X1.out 2).trans rfl; have r0 : w1.cell? ⟨w.heap.size + 1, 0, none⟩ = some (.int .i64 0) := (blk_cell R1.out 0).trans rfl; have r1 : w1.cell? ⟨w.heap.size + 1, 1, none⟩ = some (.int .i64 0) := (blk_cell R1.out 1).trans rfl; have r2 : w1.cell? ⟨w.heap.size + 1, 2, none⟩ = some (.slice none 0 0) := (blk_cell R1.out 2).trans rfl; have f0 := blk_frozen R1.out 0; have f1 := blk_frozen R1.out 1; have f2 := blk_frozen R1.out 2))
            go_loopw [25] (fun s25 wr => ∃ (i : Nat), i ≤ ls.length ∧ s25 = .int .i64 i ∧ Aside0 (contL k ls (ls.length - i) i = some true) ∧ Aside0 (wr.heap[w.heap.size]? = some (.cells #[.int .i64 a0, .int .i64 a1, .slice A l.length c] 32 (0, 0))) ∧ Aside0 (wr.heap[w.heap.size + 1]? = some (.cells #[.int .i64 0, .int .i64 0, .slice none 0 0] 32 (0, 0))) ∧ Aside0 (Below w.heap.size w wr)) (fun s25 _ => ls.length - (intOf s25).toNat)
            case atStart => exact ⟨0, Nat.zero_le _, rfl, A2_, X1, R1, B1⟩
            case round =>
              clear A2_ X1 R1 B1
              clear y0 y1 y2 r0 r1 r2 f0 f1 f2
              obtain ⟨i, hi, rfl, H, X1, R1, B1⟩ := hrel
              have H := H.out
              have y0 : wr.cell? ⟨w.heap.size, 0, none⟩ = some (.int .i64 a0) := (blk_cell X1.out 0).trans rfl; have y1 : wr.cell? ⟨w.heap.size, 1, none⟩ = some (.int .i64 a1) := (blk_cell X1.out 1).trans rfl; have y2 : wr.cell? ⟨w.heap.size, 2, none⟩ = some (.slice A l.length c) := (blk_cell X1.out 2).trans rfl; have r0 : wr.cell? ⟨w.heap.size + 1, 0, none⟩ = some (.int .i64 0) := (blk_cell R1.out 0).trans rfl; have r1 : wr.cell? ⟨w.heap.size + 1, 1, none⟩ = some (.int .i64 0) := (blk_cell R1.out 1).trans rfl; have r2 : wr.cell? ⟨w.heap.size + 1, 2, none⟩ = some (.slice none 0 0) := (blk_cell R1.out 2).trans rfl; have f0 := blk_frozen R1.out 0; have f1 := blk_frozen R1.out 1; have f2 := blk_frozen R1.out 2
              by_cases hlt : i < ls.length
              · have hltz : (i : Int) < a0 := by omega
                have p1 : ((i : Int) < a0) = True := eq_true hltz
                have b1 : decide ((i : Int) < a0) = true := decide_eq_true hltz
                obtain ⟨e', he'⟩ : ∃ e', ls.length - i = e' + 1 := ⟨ls.length - i - 1, by omega⟩
                rw [he'] at H
                simp only [contL] at H
                obtain ⟨b, AB, H⟩ := Option.bind_eq_some_iff.mp H
                have AB := Aside0.mk AB
                cases b with
                | true =>
                  rw [if_pos rfl, show e' = ls.length - (i + 1) from by omega] at H
                  have HN := Aside0.mk H
                  clear H
                  go_wp2_with (go_at_call 94; refine (slices_Contains_int64_int64.calls k _ c2 ls (i : Int) true _ (Kd.C_below HR2.out B1.out) HC2.out AB.out).mono ?_; rintro e2 w2 ⟨rfl, hd⟩; have hb := of_drawn hd; have X2 := Aside0.mk ((hb.block w.heap.size (blk_lt X1.out)).trans X1.out); have R2 := Aside0.mk ((hb.block (w.heap.size + 1) (blk_lt R1.out)).trans R1.out); have B2 := Aside0.mk (below_step B1.out hb); clear hb hd)
                  exact ⟨⟨i + 1, by omega, by go_num, HN, X2, R2, B2⟩, by simp [intOf]; omega⟩
                | false =>
                  rw [if_neg (by simp)] at H
                  cases H
              · obtain rfl : i = ls.length := by omega
                clear H hlt hi
                have p1 : ((ls.length : Int) < a0) = False := eq_false (by omega)
                have b1 : decide ((ls.length : Int) < a0) = false := decide_eq_false (by omega)
                go_wp2_with (go_at_call 85; refine (newTable k a0 a1 ws A4.out hws.1 hws.2 _).mono ?_; rintro e3 w3 ⟨B, g, cap, rfl, ht, hb⟩; have hBx : w.heap.size + 1 < B := Nat.lt_of_lt_of_le (blk_lt R1.out) ht.hB; have hgx : w.heap.size + 1 < g := Nat.lt_of_lt_of_le (blk_lt R1.out) ht.hg; have T3 := Aside0.mk (ht.lower (base' := w.heap.size) (below_size B1.out)); have X3 := Aside0.mk ((hb.block w.heap.size (blk_lt X1.out)).trans X1.out); have R3 := Aside0.mk ((hb.block (w.heap.size + 1) (blk_lt R1.out)).trans R1.out); have B3 := Aside0.mk (below_step B1.out hb); clear hb ht; clear y0 y1 y2 r0 r1 r2 f0 f1 f2; have y0 : w3.cell? ⟨w.heap.size, 0, none⟩ = some (.int .i64 a0) := (blk_cell X3.out 0).trans rfl; have y1 : w3.cell? ⟨w.heap.size, 1, none⟩ = some (.int .i64 a1) := (blk_cell X3.out 1).trans rfl; have y2 : w3.cell? ⟨w.heap.size, 2, none⟩ = some (.slice A l.length c) := (blk_cell X3.out 2).trans rfl; have r0 : w3.cell? ⟨w.heap.size + 1, 0, none⟩ = some (.int .i64 0) := (blk_cell R3.out 0).trans rfl; have r1 : w3.cell? ⟨w.heap.size + 1, 1, none⟩ = some (.int .i64 0) := (blk_cell R3.out 1).trans rfl; have r2 : w3.cell? ⟨w.heap.size + 1, 2, none⟩ = some (.slice none 0 0) := (blk_cell R3.out 2).trans rfl; have f0 := blk_frozen R3.out 0; have f1 := blk_frozen R3.out 1; have f2 := blk_frozen R3.out 2)
                go_loopw [42] (fun s42 w4 => ∃ (i : Nat) (vs : List S27) (bad : Bool), i ≤ l.length ∧ s42 = .int .i64 i ∧ Aside0 (exchT k a0 ls (l.drop i) vs bad = some (vs9, bad9)) ∧ Aside0 (vs.length = ws.length) ∧ Aside0 (Tab w4 w.heap.size B g cap a0 a1 vs bad) ∧ Aside0 (w4.heap[w.heap.size]? = some (.cells #[.int .i64 a0, .int .i64 a1, .slice A l.length c] 32 (0, 0))) ∧ Aside0 (w4.heap[w.heap.size + 1]? = some (.cells #[.int .i64 0, .int .i64 0, .slice none 0 0] 32 (0, 0))) ∧ Aside0 (Below w.heap.size w w4)) (fun s42 _ => l.length - (intOf s42).toNat)
                case atStart => exact ⟨0, _, _, Nat.zero_le _, rfl, A5, ⟨by simp⟩, T3, X3, R3, B3⟩
                case round =>
                  clear T3 X3 R3 B3 A5 X1 R1 B1 p1 b1
                  clear y0 y1 y2 r0 r1 r2 f0 f1 f2
                  rename World => w4
                  obtain ⟨i, vs, bad, hi, rfl, H, HL, HT, X4, R4, BB⟩ := hrel
                  by_cases hlt : i < l.length
                  · have hltz : (i : Int) < (l.length : Int) := by omega
                    have H := H.out
                    rw [List.drop_eq_getElem_cons hlt] at H
                    simp only [exchT] at H
                    obtain ⟨ys, AY, H⟩ := Option.bind_eq_some_iff.mp H
                    by_cases hys : ys.length = l[i].f0.size ∧ l[i].f0.size ≤ 1000000
                    · rw [if_pos hys] at H
                      obtain ⟨n, AN, H⟩ := Option.bind_eq_some_iff.mp H
                      by_cases hn0 : 0 ≤ n ∧ n < (vs.length : Int)
                      · rw [if_pos hn0] at H
                        obtain ⟨⟨s0, s1, s2⟩, AS, H⟩ := Option.bind_eq_some_iff.mp H
                        obtain ⟨n, rfl⟩ := Int.eq_ofNat_of_zero_le hn0.1
                        have hn : n < vs.length := by omega
                        dsimp only at H AS
                        rw [Int.toNat_natCast] at H
                        have AY := Aside0.mk AY
                        have AN := Aside0.mk AN
                        have AS := Aside0.mk AS
                        have HYS := Aside0.mk hys.1
                        have hsz1 := hys.2
                        have HN := Aside0.mk H
                        clear H hn0 hys
                        obtain ⟨ad, eA, x0, x1, x2⟩ := at_T89 HR.out (i : Int) (by omega) hltz
                        subst eA
                        rw [show rd_T89 l (i : Int) = l[i] from by simp [rd_T89, hlt], Int.toNat_natCast] at x0 x1 x2
                        replace x0 := (BB.out.cell (World.block_lt_of_cell? w _ x0)).trans x0
                        replace x1 := (BB.out.cell (World.block_lt_of_cell? w _ x1)).trans x1
                        replace x2 := (BB.out.cell (World.block_lt_of_cell? w _ x2)).trans x2
                        have p1 : (0 ≤ (i : Int)) = True := eq_true (by omega)
                        have p2 : ((i : Int) < (l.length : Int)) = True := eq_true hltz
                        have p3 : (i < l.length) = True := eq_true hlt
                        have BT3 := Aside0.mk (blk_new w4 (.cells #[.string l[i].f0, .int .i64 l[i].f1.f0, .int .i64 l[i].f1.f1] 89))
                        have HT3 := Aside0.mk (HT.out.below (below_alloc (Below.refl _ _) (.cells #[.string l[i].f0, .int .i64 l[i].f1.f0, .int .i64 l[i].f1.f1] 89)))
                        have X3 := Aside0.mk (blk_alloc X4.out (.cells #[.string l[i].f0, .int .i64 l[i].f1.f0, .int .i64 l[i].f1.f1] 89))
                        have R3 := Aside0.mk (blk_alloc R4.out (.cells #[.string l[i].f0, .int .i64 l[i].f1.f0, .int .i64 l[i].f1.f1] 89))
                        have BB3 := Aside0.mk (below_alloc BB.out (.cells #[.string l[i].f0, .int .i64 l[i].f1.f0, .int .i64 l[i].f1.f1] 89))
                        have hTB : B < w4.heap.size := HT.out.ltB
                        have hTg : g < w4.heap.size := HT.out.lt
                        have hTw : w.heap.size + 1 < w4.heap.size := blk_lt R4.out
                        have hcv := Go.Lib.run_convert_string_bytes (P := Try.prog) (w4.alloc (.cells #[.string l[i].f0, .int .i64 l[i].f1.f0, .int .i64 l[i].f1.f1] 89)) 9 112 5 l[i].f0 Try.underlying9 Try.underlying112 Try.underlying5
                        go_wp2
                        have hb := bytes_below (w4.alloc (.cells #[.string l[i].f0, .int .i64 l[i].f1.f0, .int .i64 l[i].f1.f1] 89)) l[i].f0
                        have BY4 := Aside0.mk (Byt.new (w4.alloc (.cells #[.string l[i].f0, .int .i64 l[i].f1.f0, .int .i64 l[i].f1.f1] 89)) l[i].f0)
                        have HT4 := Aside0.mk (HT3.out.below hb)
                        have BT4 := Aside0.mk ((hb.block w4.heap.size (blk_lt BT3.out)).trans BT3.out)
                        have X5 := Aside0.mk ((hb.block w.heap.size (blk_lt X3.out)).trans X3.out)
                        have R5 := Aside0.mk ((hb.block (w.heap.size + 1) (blk_lt R3.out)).trans R3.out)
                        have BB4 := Aside0.mk (below_step BB3.out hb)
                        have hgw : (w4.alloc (.cells #[.string l[i].f0, .int .i64 l[i].f1.f0, .int .i64 l[i].f1.f1] 89)).heap.size = w4.heap.size + 1 := by simp
                        clear hcv hb x0 x1 x2 p1 p2 p3 HT BB X3 R3 HT3 BT3 BB3 X4 R4
                        rw [hgw] at BY4
                        clear hgw
                        generalize Go.Lib.bytesWorld (w4.alloc (.cells #[.string l[i].f0, .int .i64 l[i].f1.f0, .int .i64 l[i].f1.f1] 89)) 5 l[i].f0 = W5 at BY4 HT4 BT4 X5 R5 BB4 ⊢
                        generalize grownCap (w4.alloc (.cells #[.string l[i].f0, .int .i64 l[i].f1.f0, .int .i64 l[i].f1.f1] 89)) l[i].f0.size 0 5 = cap5
                        go_loopw [51] (fun s51 w6 => ∃ (j : Nat) (xs : List Int), j ≤ l[i].f0.size ∧ s51 = .int .i64 j ∧ Aside0 (bytesX ls (l[i].f0.size - j) j xs = some ys) ∧ Aside0 (xs.length = l[i].f0.size) ∧ Aside0 (Byt w6 (w4.heap.size + 1) xs) ∧ Aside0 (Tab w6 w.heap.size B g cap a0 a1 vs bad) ∧ Aside0 (w6.heap[w4.heap.size]? = some (.cells #[.string l[i].f0, .int .i64 l[i].f1.f0, .int .i64 l[i].f1.f1] 89 (0, 0))) ∧ Aside0 (w6.heap[w.heap.size]? = some (.cells #[.int .i64 a0, .int .i64 a1, .slice (some ad) l.length c] 32 (0, 0))) ∧ Aside0 (w6.heap[w.heap.size + 1]? = some (.cells #[.int .i64 0, .int .i64 0, .slice none 0 0] 32 (0, 0))) ∧ Aside0 (Below w.heap.size w w6)) (fun s51 _ => l[i].f0.size - (intOf s51).toNat)
                        case atStart => exact ⟨0, strB l[i].f0, Nat.zero_le _, rfl, AY, ⟨strB_length _⟩, BY4, HT4, BT4, X5, R5, BB4⟩
                        case round =>
                          clear BY4 HT4 BT4 X5 R5 BB4 AY
                          obtain ⟨j, xs, hj, rfl, H, HXL, BY, HT, BT, X6, R6, BB⟩ := hrel
                          have hxl := HXL.out
                          by_cases hjt : j < l[i].f0.size
                          · have H := H.out
                            obtain ⟨e', he'⟩ : ∃ e', l[i].f0.size - j = e' + 1 := ⟨l[i].f0.size - j - 1, by omega⟩
                            rw [he'] at H
                            simp only [bytesX] at H
                            by_cases hc : (rd xs (j : Int) - 48) % 256 < (ls.length : Int)
                            · rw [if_pos hc, show e' = l[i].f0.size - (j + 1) from by omega] at H
                              have HN1 := Aside0.mk H
                              clear H he'
                              obtain ⟨y0, yf⟩ := BY.out.cell j (by omega)
                              have hc0 : 0 ≤ (rd xs (j : Int) - 48) % 256 := Int.emod_nonneg _ (by decide)
                              obtain ⟨ad2, e2, z0⟩ := Kd.at_int HR2.out ((rd xs (j : Int) - 48) % 256) hc0 hc
                              subst e2
                              replace z0 := (BB.out.cell (World.block_lt_of_cell? w _ z0)).trans z0
                              have hu8_ : ∀ z : Int, IntKind.u8.wrap z = z % 256 := fun z => IntKind.wrap_u8 z
                              have p1 : (0 ≤ (j : Int)) = True := eq_true (by omega)
                              have p2 : ((j : Int) < (l[i].f0.size : Int)) = True := eq_true (by omega)
                              have p3 : (j < l[i].f0.size) = True := eq_true hjt
                              have p4 : (0 ≤ (rd xs (j : Int) - 48) % 256) = True := eq_true hc0
                              have p5 : ((rd xs (j : Int) - 48) % 256 < (ls.length : Int)) = True := eq_true hc
                              have b1 : decide ((j : Int) < (l[i].f0.size : Int)) = true := decide_eq_true (by omega)
                              go_wp2
                              exact ⟨⟨j + 1, xs.set j ((48 + rd ls ((rd xs (j : Int) - 48) % 256)) % 256), by omega, by go_num, HN1, ⟨by rw [List.length_set]; exact hxl⟩, ⟨BY.out.put j (by omega) _⟩, ⟨HT.out.move (fun q hq => Below.heap_setCell wr ⟨w4.heap.size + 1, j, none⟩ _ q (by show q ≠ w4.heap.size + 1; omega))⟩, ⟨(Below.heap_setCell wr ⟨w4.heap.size + 1, j, none⟩ _ w4.heap.size (by show w4.heap.size ≠ w4.heap.size + 1; omega)).trans BT.out⟩, ⟨(Below.heap_setCell wr ⟨w4.heap.size + 1, j, none⟩ _ w.heap.size (by show w.heap.size ≠ w4.heap.size + 1; omega)).trans X6.out⟩, ⟨(Below.heap_setCell wr ⟨w4.heap.size + 1, j, none⟩ _ (w.heap.size + 1) (by show w.heap.size + 1 ≠ w4.heap.size + 1; omega)).trans R6.out⟩, ⟨below_set BB.out (by omega)⟩⟩, by simp [intOf]; omega⟩
                            · rw [if_neg hc] at H
                              exact absurd H (by simp)
                          · obtain rfl : j = l[i].f0.size := by omega
                            have H := H.out
                            rw [Nat.sub_self] at H
                            simp only [bytesX] at H
                            obtain rfl := Option.some.inj H
                            clear H hjt hj
                            have hcv := BY.out.string cap5
                            rw [hxl] at hcv
                            have z0 : wr.cell? ⟨w4.heap.size, 0, none⟩ = some (.string l[i].f0) := (blk_cell BT.out 0).trans rfl
                            have z1 : wr.cell? ⟨w4.heap.size, 1, none⟩ = some (.int .i64 l[i].f1.f0) := (blk_cell BT.out 1).trans rfl
                            have z2 : wr.cell? ⟨w4.heap.size, 2, none⟩ = some (.int .i64 l[i].f1.f1) := (blk_cell BT.out 2).trans rfl
                            have b1 : decide ((l[i].f0.size : Int) < (l[i].f0.size : Int)) = false := decide_eq_false (by omega)
                            go_wp2_with (go_at_call 95; refine (add k w.heap.size B g cap a0 a1 vs _ _ n _ _ s0 s1 s2 AN.out hn AS.out _ HT.out).mono ?_; rintro e9 w9 ⟨rfl, ht, hto, hbb⟩; have HT9 := Aside0.mk ht; have X9 := Aside0.mk ((hto.2 w.heap.size (blk_lt X6.out) (by omega) (by omega)).trans X6.out); have R9 := Aside0.mk ((hto.2 (w.heap.size + 1) (blk_lt R6.out) (by omega) (by omega)).trans R6.out); have BB9 := Aside0.mk (BB.out.trans (hbb w.heap.size (by omega) (by omega))); clear ht hto hbb)
                            exact ⟨⟨i + 1, _, _, by omega, by go_num, HN, ⟨(addV_lengthX _ _ _ _ _).trans HL.out⟩, HT9, X9, R9, BB9⟩, by simp [intOf]; omega⟩
                      · rw [if_neg hn0] at H
                        exact absurd H (by simp)
                    · rw [if_neg hys] at H
                      exact absurd H (by simp)
                  · obtain rfl : i = l.length := by omega
                    have H := H.out
                    rw [List.drop_length] at H
                    simp only [exchT] at H
                    cases H
                    have y0 : w4.cell? ⟨w.heap.size, 0, none⟩ = some (.int .i64 a0) := (blk_cell X4.out 0).trans rfl; have y1 : w4.cell? ⟨w.heap.size, 1, none⟩ = some (.int .i64 a1) := (blk_cell X4.out 1).trans rfl; have y2 : w4.cell? ⟨w.heap.size, 2, none⟩ = some (.slice A l.length c) := (blk_cell X4.out 2).trans rfl; have r0 : w4.cell? ⟨w.heap.size + 1, 0, none⟩ = some (.int .i64 0) := (blk_cell R4.out 0).trans rfl; have r1 : w4.cell? ⟨w.heap.size + 1, 1, none⟩ = some (.int .i64 0) := (blk_cell R4.out 1).trans rfl; have r2 : w4.cell? ⟨w.heap.size + 1, 2, none⟩ = some (.slice none 0 0) := (blk_cell R4.out 2).trans rfl; have f0 := blk_frozen R4.out 0; have f1 := blk_frozen R4.out 1; have f2 := blk_frozen R4.out 2
                    go_wp2_with (go_at_call 75; refine (told k a0 a1 ws A4.out hws.1 hws.2 _ B g cap _ _ hvl _ HT.out).mono ?_; rw [HTO.out]; rintro e5 w5 ⟨v, rfl, hv, hb⟩; obtain ⟨At, ct, rfl⟩ := Kd.R_slice hv; have HV := Aside0.mk hv; clear hv; have R5 := Aside0.mk ((hb.block (w.heap.size + 1) (blk_lt R4.out)).trans R4.out); have B5 := Aside0.mk (below_step BB.out hb); clear hb r0 r1 r2 f0 f1 f2; have r0 : w5.cell? ⟨w.heap.size + 1, 0, none⟩ = some (.int .i64 0) := (blk_cell R5.out 0).trans rfl; have r1 : w5.cell? ⟨w.heap.size + 1, 1, none⟩ = some (.int .i64 0) := (blk_cell R5.out 1).trans rfl; have r2 : w5.cell? ⟨w.heap.size + 1, 2, none⟩ = some (.slice none 0 0) := (blk_cell R5.out 2).trans rfl; have f0 := blk_frozen R5.out 0; have f1 := blk_frozen R5.out 1; have f2 := blk_frozen R5.out 2)
                    have hsz4 : w.heap.size ≤ w4.heap.size := below_size BB.out
                    have q0 := R5.out
                    have q1 := blk_put (cs' := #[.int .i64 t1, .int .i64 0, .slice none 0 0]) q0 0 (.int .i64 t1) rfl
                    have q2 := blk_put (cs' := #[.int .i64 t1, .int .i64 t2, .slice none 0 0]) q1 1 (.int .i64 t2) rfl
                    refine bodyPost_ret (results_list (rs := [.cell 4 32, .tmp 5]) (vs := [.agg #[.int .i64 t1, .int .i64 t2, .slice At t3.length ct], .int .i64 t4]) rfl (show (2 : Nat) ≠ 1 from by decide) (.cell (w.heap.size + 1) 32 #[.int .i64 t1, .int .i64 t2, .slice At t3.length ct] (0, 0) _ rfl (blk_put q2 2 _ rfl) Try.underlying32 rfl (by kernel_rfl) (.tmp .nil))) rfl ?_
                    exact ⟨_, rfl, Kd.R_set (Kd.R_set (Kd.R_set (Kd.R_lower HV.out hsz4) q0 (by decide) 0 _) q1 (by decide) 1 _) q2 (by decide) 2 _, below_set (below_set (below_set B5.out (by omega)) (by omega)) (by omega)⟩
          · rw [if_neg hvl] at h
            exact absurd h (by simp)
        · rw [if_neg hws] at h
          exact absurd h (by simp)
    · rw [if_neg hlen] at h
      cases h
      have n1 : ((ls.length : Int) != a0) = true := bne_iff_ne.mpr hlen
      go_enter Try.func42, Try.ntmps42
      go_wp2_with (first | (go_at_call 57; refine (impl_IsSeries.calls k _ _ _ c l true _ (Kd.C_below HR.out B0.out) HC.out A1.out).mono ?_; rintro e1 w1 ⟨rfl, hb⟩; have X1 := Aside0.mk ((hb.block w.heap.size (blk_lt X0.out)).trans X0.out); have R1 := Aside0.mk ((hb.block (w.heap.size + 1) (blk_lt R0.out)).trans R0.out); have B1 := Aside0.mk (below_step B0.out hb); clear hb; clear y0 y1 y2 r0 r1 r2 f0 f1 f2; have y0 : w1.cell? ⟨w.heap.size, 0, none⟩ = some (.int .i64 a0) := (blk_cell X1.out 0).trans rfl; have y1 : w1.cell? ⟨w.heap.size, 1, none⟩ = some (.int .i64 a1) := (blk_cell X1.out 1).trans rfl; have y2 : w1.cell? ⟨w.heap.size, 2, none⟩ = some (.slice A l.length c) := (blk_cell X1.out 2).trans rfl; have r0 : w1.cell? ⟨w.heap.size + 1, 0, none⟩ = some (.int .i64 0) := (blk_cell R1.out 0).trans rfl; have r1 : w1.cell? ⟨w.heap.size + 1, 1, none⟩ = some (.int .i64 0) := (blk_cell R1.out 1).trans rfl; have r2 : w1.cell? ⟨w.heap.size + 1, 2, none⟩ = some (.slice none 0 0) := (blk_cell R1.out 2).trans rfl; have f0 := blk_frozen R1.out 0; have f1 := blk_frozen R1.out 1; have f2 := blk_frozen R1.out 2))
      have q0 := R1.out
      have q1 := blk_put (cs' := #[.int .i64 0, .int .i64 0, .slice none 0 0]) q0 0 (.int .i64 0) rfl
      have q2 := blk_put (cs' := #[.int .i64 0, .int .i64 0, .slice none 0 0]) q1 1 (.int .i64 0) rfl
      refine bodyPost_ret (results_list (rs := [.cell 4 32, .tmp 5]) (vs := [.agg #[.int .i64 0, .int .i64 0, .slice none 0 0], .int .i64 2]) rfl (show (2 : Nat) ≠ 1 from by decide) (.cell (w.heap.size + 1) 32 #[.int .i64 0, .int .i64 0, .slice none 0 0] (0, 0) _ rfl (blk_put q2 2 _ rfl) Try.underlying32 rfl (by kernel_rfl) (.tmp .nil))) rfl ?_
      exact ⟨_, rfl, Kd.R_nil _ _ _ _ _, below_set (below_set (below_set B1.out (by omega)) (by omega)) (by omega)⟩
end Go.Proofs.Ytcklefgkbddlhaa.Tab
