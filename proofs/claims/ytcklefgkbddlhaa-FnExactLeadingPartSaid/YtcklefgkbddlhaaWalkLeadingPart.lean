/- laws.FnExactLeadingPart, at any arguments: it returns true, and what was there before lies as it lay. -/
import Derived.Test.YtcklefgkbddlhaaPx8
import Derived.Test.YtcklefgkbddlhaaPx14
import Derived.Test.YtcklefgkbddlhaaPx3
import Derived.Test.YtcklefgkbddlhaaMarkX
import Derived.Test.YtcklefgkbddlhaaTabC
namespace Go.Proofs.Ytcklefgkbddlhaa.Nest
open Go.RowKit Go.Proofs.Ytcklefgkbddlhaa.P Go.Proofs.Ytcklefgkbddlhaa.Pure Go.Proofs.Ytcklefgkbddlhaa.Tab Go.Proofs.YtcklefgkbddlhaaW.PrintWords Go.Proofs.YtcklefgkbddlhaaW.PrintLast Go.Proofs.YtcklefgkbddlhaaW.PrintMore
set_option linter.unusedVariables false
set_option linter.unusedSimpArgs false

theorem own3 {α : Type} {d : Kd α} {e : Nat} {ok : Nat → Prop} {w w1 w2 : World} {v : Value} {l : List α} (h : Kd.S d e w2 w1.heap.size ok v l) (hb : Below w.heap.size w w1) : Kd.S d e w2 w.heap.size (fun k => w1.heap.size ≤ k ∧ k < w2.heap.size) v l :=
  Kd.S_lower (Kd.S_mono (Kd.S_bound h) (fun k hk => ⟨hk.2.1, hk.2.2.1⟩)) hb.size
theorem own3R {α : Type} {d : Kd α} {e : Nat} {ok : Nat → Prop} {w w1 w2 : World} {v : Value} {l : List α} (h : d.R e w2 w1.heap.size ok v l) (hb : Below w.heap.size w w1) : d.R e w2 w.heap.size (fun k => w1.heap.size ≤ k ∧ k < w2.heap.size) v l :=
  Kd.R_lower (Kd.R_mono (Kd.R_bound h) (fun k hk => ⟨hk.2.1, hk.2.2.1⟩)) hb.size
theorem calls_of_args {P : Program} {f : FuncId} {args args' : Array Value} {w : World} {Q : Ending → World → Prop} (h : args = args') (hc : Calls P f args' w Q) : Calls P f args w Q := h ▸ hc
/-- A box of a series. -/
def Box (w : World) (b : Nat) (t1 t2 : Int) (v : Value) : Prop := w.heap[b]? = some (.cells #[.int .i64 t1, .int .i64 t2, v] 32 (0, 0))
theorem Box.new (w : World) (t1 t2 : Int) (v : Value) : Box (w.alloc (.cells #[.int .i64 t1, .int .i64 t2, v] 32)) w.heap.size t1 t2 v := Tab.blk_new w _
theorem Box.lt {w : World} {b : Nat} {t1 t2 : Int} {v : Value} (h : Box w b t1 t2 v) : b < w.heap.size := (Array.getElem?_eq_some_iff.1 h).1
theorem Box.below {w w1 : World} {b : Nat} {t1 t2 : Int} {v : Value} (h : Box w b t1 t2 v) (hb : Below w.heap.size w w1) : Box w1 b t1 t2 v := (hb.block b h.lt).trans h
theorem Box.kept {w w1 : World} {b : Nat} {t1 t2 : Int} {v : Value} {S : Nat → Prop} (h : Box w b t1 t2 v) (hk : Kept w w1 S) (hn : ¬ S b) : Box w1 b t1 t2 v := (hk.2 b h.lt hn).trans h
theorem Box.drewN {w : World} {b : Nat} {t1 t2 : Int} {v : Value} (h : Box w b t1 t2 v) (n : Nat) : Box (w.drewN n) b t1 t2 v := h
theorem Box.alloc {w : World} {b : Nat} {t1 t2 : Int} {v : Value} (h : Box w b t1 t2 v) (o : Obj) : Box (w.alloc o) b t1 t2 v := h.below (below_alloc (Below.refl _ _) o)
theorem Box.cells {w : World} {b : Nat} {t1 t2 : Int} {v : Value} (h : Box w b t1 t2 v) : w.cell? ⟨b, 0, none⟩ = some (.int .i64 t1) ∧ w.cell? ⟨b, 1, none⟩ = some (.int .i64 t2) ∧ w.cell? ⟨b, 2, none⟩ = some v := by
  refine ⟨?_, ?_, ?_⟩
  · exact (blk_cell h 0).trans rfl
  · exact (blk_cell h 1).trans rfl
  · exact (blk_cell h 2).trans rfl

set_option maxHeartbeats 16000000 in
set_option maxRecDepth 100000 in
theorem walk_main (a0 a1 : Int) (A1 : Option Addr) (c1 : Nat) (l : List Int) (t1 t2 t4 : Int) (t3 : List S89) (kS kI : Nat) (w : World) (hr : Kd.C (Kd.int .i64) w A1 l.length l) (hc : l.length ≤ c1) (hl : l.length ≤ 1048576) (hn : t3.length ≤ 1000) (hS : spec_LeadingPart.f kS a0 a1 l = some (t1, t2, t3, t4)) (hI : impl_LeadingPart.f kI a0 a1 l = some (t1, t2, t3, t4)) :
    Calls Try.prog 7 #[.int .i64 a0, .int .i64 a1, .slice A1 l.length c1] w fun e w' => e = .returned (.bool true) ∧ Below w.heap.size w w' := by
  have hu24 := Try.underlying32
  have HS := Aside0.mk hS
  have HI := Aside0.mk hI
  have HT := Aside0.mk (toInt64S_f 5000000 l hl (by omega))
  have HL := Aside0.mk (eqInt64S_f 5000000 l (by omega) (by omega))
  have HM := Aside0.mk (markInt64S_f 5000000 l 1 (by omega) (by omega) (by omega) (by omega))
  have HR := Aside0.mk hr
  have HC := Aside0.mk hc
  have b0 : decide ((l.length : Int) > 1048576) = false := decide_eq_false (by omega)
  have HE := Aside0.mk (eqSeries_f 5000000 t1 t2 t3 (by omega) (by omega))
  have HH := Aside0.mk (heldSeries_f 5000000 t1 t2 t3.length 1 hn (by omega) (by omega) (by omega))
  have q1 : decide ((1 : Int) + (l.length : Int) < 0) = false := decide_eq_false (by omega)
  have q2 : decide ((1 : Int) + 3 * (t3.length : Int) < 0) = false := decide_eq_false (by omega)
  have N1 : Aside0 ((1 : Int) + 3 * (t3.length : Int) ≤ 9000000) := ⟨by omega⟩
  have LM : Aside0 ((tmarks 1 t3.length).length = t3.length) := ⟨tmarks_length _ _⟩
  clear hS hI hn hl hr hc
  have B := Aside0.mk (Below.refl w.heap.size w)
  go_enter Try.func7, Try.ntmps7
  go_wp2_with fail
  refine (laws_toInt64S.calls 5000000 A1 c1 l l _ (Kd.C_below HR.out B.out) HC.out HT.out).mono ?_
  rintro e w2 ⟨v2, rfl, ho2, hb2⟩
  replace B := Aside0.mk (below_step B.out hb2)
  obtain ⟨a2_, k2_, rfl, hk2, hc2⟩ := Kd.R_reads ho2
  have C2 := Aside0.mk hc2
  have K2 := Aside0.mk hk2
  clear ho2 hb2 hk2 hc2
  go_wp2_with fail
  refine (spec_LeadingPart.calls kS a0 a1 a2_ k2_ l t1 t2 t3 t4 _ C2.out K2.out HS.out).mono ?_
  rintro e w3 ⟨v3, rfl, ho3, hb3⟩
  have ZS2 := Aside0.mk hb3.size
  have S2 := Aside0.mk (Kd.R_alloc (own3R ho3 B.out) (.cells #[.int .i64 t1, .int .i64 t2, v3] 32))
  replace B := Aside0.mk (below_alloc (below_step B.out hb3) (.cells #[.int .i64 t1, .int .i64 t2, v3] 32))
  obtain ⟨a3_, k3_, rfl⟩ := Kd.R_slice ho3
  have XS := Aside0.mk (Box.new w3 t1 t2 (.slice a3_ t3.length k3_))
  have LS : w3.heap.size < (w3.alloc (.cells #[.int .i64 t1, .int .i64 t2, .slice a3_ t3.length k3_] 32)).heap.size := XS.out.lt
  clear ho3 hb3
  go_wp2_with fail
  refine (laws_toInt64S.calls 5000000 A1 c1 l l _ (Kd.C_below HR.out B.out) HC.out HT.out).mono ?_
  rintro e w4 ⟨v4, rfl, ho4, hb4⟩
  have ZS3 := Aside0.mk (Nat.lt_of_lt_of_le LS hb4.size)
  replace S2 := Aside0.mk (Kd.R_below S2.out hb4)
  replace XS := Aside0.mk (XS.out.below hb4)
  have S3 := Aside0.mk (Kd.R_mono (own3R ho4 B.out) (ok' := fun k => w3.heap.size < k ∧ k < w4.heap.size) (fun k hk => ⟨Nat.lt_of_lt_of_le LS hk.1, hk.2⟩))
  replace B := Aside0.mk (below_step B.out hb4)
  obtain ⟨a4_, k4_, rfl, hk4, hc4⟩ := Kd.R_reads ho4
  clear ho4 hb4 hk4 hc4 LS
  go_wp2_with fail
  refine (impl_LeadingPart.calls kI a0 a1 a4_ k4_ l t1 t2 t3 t4 _ (Kd.R_reads' S3.out).2.2 (Kd.R_reads' S3.out).2.1 HI.out).mono ?_
  rintro e w5 ⟨v5, rfl, ho5, hb5⟩
  have ZS4 := Aside0.mk hb5.size
  replace S2 := Aside0.mk (Kd.R_alloc (Kd.R_below S2.out hb5) (.cells #[.int .i64 t1, .int .i64 t2, v5] 32))
  replace S3 := Aside0.mk (Kd.R_alloc (Kd.R_below S3.out hb5) (.cells #[.int .i64 t1, .int .i64 t2, v5] 32))
  replace XS := Aside0.mk ((XS.out.below hb5).alloc (.cells #[.int .i64 t1, .int .i64 t2, v5] 32))
  have S4 := Aside0.mk (Kd.R_alloc (own3R ho5 B.out) (.cells #[.int .i64 t1, .int .i64 t2, v5] 32))
  replace B := Aside0.mk (below_alloc (below_step B.out hb5) (.cells #[.int .i64 t1, .int .i64 t2, v5] 32))
  obtain ⟨a5_, k5_, rfl⟩ := Kd.R_slice ho5
  have XG := Aside0.mk (Box.new w5 t1 t2 (.slice a5_ t3.length k5_))
  clear ho5 hb5
  obtain ⟨xs0, xs1, xs2⟩ := XS.out.cells
  obtain ⟨xg0, xg1, xg2⟩ := XG.out.cells
  go_wp2_with fail
  refine (laws_eqSeries.calls 5000000 t1 t2 a5_ k5_ t3 t1 t2 a3_ k3_ t3 true _ (Kd.R_reads' S4.out).2.2 (Kd.R_reads' S4.out).2.1 (Kd.R_reads' S2.out).2.2 (Kd.R_reads' S2.out).2.1 HE.out).mono ?_
  rintro e w6 ⟨rfl, hb6⟩
  replace S2 := Aside0.mk (Kd.R_below S2.out hb6)
  replace S3 := Aside0.mk (Kd.R_below S3.out hb6)
  replace S4 := Aside0.mk (Kd.R_below S4.out hb6)
  replace XS := Aside0.mk (XS.out.below hb6)
  replace XG := Aside0.mk (XG.out.below hb6)
  replace B := Aside0.mk (below_step B.out hb6)
  clear hb6 xs0 xs1 xs2 xg0 xg1 xg2
  go_wp2_with fail
  refine (laws_toInt64S.calls 5000000 A1 c1 l l _ (Kd.C_below HR.out B.out) HC.out HT.out).mono ?_
  rintro e w7 ⟨v7, rfl, ho7, hb7⟩
  replace S2 := Aside0.mk (Kd.R_below S2.out hb7)
  replace S3 := Aside0.mk (Kd.R_below S3.out hb7)
  replace S4 := Aside0.mk (Kd.R_below S4.out hb7)
  replace XS := Aside0.mk (XS.out.below hb7)
  replace XG := Aside0.mk (XG.out.below hb7)
  replace B := Aside0.mk (below_step B.out hb7)
  obtain ⟨a7_, k7_, rfl, hk7, hc7⟩ := Kd.R_reads ho7
  have C7 := Aside0.mk hc7
  have K7 := Aside0.mk hk7
  clear ho7 hb7 hk7 hc7
  go_wp2_with fail
  refine (laws_eqInt64S.calls 5000000 a4_ k4_ l a7_ k7_ l true _ (Kd.R_reads' S3.out).2.2 (Kd.R_reads' S3.out).2.1 C7.out K7.out HL.out).mono ?_
  rintro e w' ⟨rfl, n8, rfl⟩
  replace S2 := Aside0.mk (Kd.R_drewN S2.out n8)
  replace S3 := Aside0.mk (Kd.R_drewN S3.out n8)
  replace S4 := Aside0.mk (Kd.R_drewN S4.out n8)
  replace XS := Aside0.mk (XS.out.drewN n8)
  replace XG := Aside0.mk (XG.out.drewN n8)
  replace B := Aside0.mk (pw_below_drewN B.out n8)
  go_wp2_with fail
  refine (laws_markInt64S.calls 5000000 _ _ l 1 _ _ w _ B.out S3.out HM.out).mono ?_
  rintro e w9 ⟨rfl, ho9, hb9, hk9⟩
  replace S2 := Aside0.mk (Kd.R_kept S2.out hk9 (fun k h1 h2 => by have := h1.2; have := h2.1; omega))
  replace S4 := Aside0.mk (Kd.R_kept S4.out hk9 (fun k h1 h2 => by have := h1.1; have := h2.2; omega))
  replace XS := Aside0.mk (XS.out.kept hk9 (fun h => Nat.lt_irrefl _ h.1))
  replace XG := Aside0.mk (XG.out.kept hk9 (fun h => by have := h.2; have := ZS4.out; omega))
  replace B := Aside0.mk hb9
  clear hb9 hk9 ho9 S3
  obtain ⟨xs0, xs1, xs2⟩ := XS.out.cells
  obtain ⟨xg0, xg1, xg2⟩ := XG.out.cells
  go_wp2_with fail
  refine (laws_eqSeries.calls 5000000 t1 t2 a5_ k5_ t3 t1 t2 a3_ k3_ t3 true _ (Kd.R_reads' S4.out).2.2 (Kd.R_reads' S4.out).2.1 (Kd.R_reads' S2.out).2.2 (Kd.R_reads' S2.out).2.1 HE.out).mono ?_
  rintro e w10 ⟨rfl, hb10⟩
  replace S2 := Aside0.mk (Kd.R_below S2.out hb10)
  replace S4 := Aside0.mk (Kd.R_below S4.out hb10)
  replace XS := Aside0.mk (XS.out.below hb10)
  replace XG := Aside0.mk (XG.out.below hb10)
  replace B := Aside0.mk (below_step B.out hb10)
  clear hb10 xs0 xs1 xs2 xg0 xg1 xg2
  obtain ⟨xg0, xg1, xg2⟩ := XG.out.cells
  go_wp2_with fail
  refine (markSeries_calls _ t1 t2 _ t3 1 w _ B.out S4.out (by omega) (by omega) N1.out).mono ?_
  rintro e w11 ⟨rfl, ho11, hb11, hk11⟩
  replace S2 := Aside0.mk (Kd.R_kept S2.out hk11 (fun k h1 h2 => by have := h1.2; have := h2.1; have := ZS3.out; omega))
  replace S4 := Aside0.mk ho11
  replace XS := Aside0.mk (XS.out.kept hk11 (fun h => by have := h.1; have := ZS3.out; omega))
  replace XG := Aside0.mk (XG.out.kept hk11 (fun h => Nat.lt_irrefl _ h.2))
  replace B := Aside0.mk hb11
  clear hb11 hk11 ho11 xg0 xg1 xg2
  obtain ⟨xg0, xg1, xg2⟩ := XG.out.cells
  go_wp2_with fail
  refine (calls_of_args (by rw [LM.out]) (laws_heldSeries.calls 5000000 t1 t2 a5_ k5_ (tmarks 1 t3.length) 1 (1 + 3 * t3.length) _ (Kd.R_reads' S4.out).2.2 (by rw [LM.out]; exact (Kd.R_reads' S4.out).2.1) HH.out)).mono ?_
  rintro e w12 ⟨rfl, hb12⟩
  replace S2 := Aside0.mk (Kd.R_below S2.out hb12)
  replace S4 := Aside0.mk (Kd.R_below S4.out hb12)
  replace XS := Aside0.mk (XS.out.below hb12)
  replace XG := Aside0.mk (XG.out.below hb12)
  replace B := Aside0.mk (below_step B.out hb12)
  clear hb12 xg0 xg1 xg2
  go_wp2_with fail
  refine (laws_toInt64S.calls 5000000 A1 c1 l l _ (Kd.C_below HR.out B.out) HC.out HT.out).mono ?_
  rintro e w13 ⟨v13, rfl, ho13, hb13⟩
  replace S2 := Aside0.mk (Kd.R_below S2.out hb13)
  replace S4 := Aside0.mk (Kd.R_below S4.out hb13)
  replace XS := Aside0.mk (XS.out.below hb13)
  replace XG := Aside0.mk (XG.out.below hb13)
  replace B := Aside0.mk (below_step B.out hb13)
  obtain ⟨a13_, k13_, rfl, hk13, hc13⟩ := Kd.R_reads ho13
  have C13 := Aside0.mk hc13
  have K13 := Aside0.mk hk13
  clear ho13 hb13 hk13 hc13
  go_wp2_with fail
  refine (impl_LeadingPart.calls kI a0 a1 a13_ k13_ l t1 t2 t3 t4 _ C13.out K13.out HI.out).mono ?_
  rintro e w14 ⟨v14, rfl, ho14, hb14⟩
  replace S2 := Aside0.mk (Kd.R_alloc (Kd.R_below S2.out hb14) (.cells #[.int .i64 t1, .int .i64 t2, v14] 32))
  replace S4 := Aside0.mk (Kd.R_alloc (Kd.R_below S4.out hb14) (.cells #[.int .i64 t1, .int .i64 t2, v14] 32))
  replace XS := Aside0.mk ((XS.out.below hb14).alloc (.cells #[.int .i64 t1, .int .i64 t2, v14] 32))
  replace XG := Aside0.mk ((XG.out.below hb14).alloc (.cells #[.int .i64 t1, .int .i64 t2, v14] 32))
  have S9 := Aside0.mk (Kd.R_alloc (own3R ho14 B.out) (.cells #[.int .i64 t1, .int .i64 t2, v14] 32))
  replace B := Aside0.mk (below_alloc (below_step B.out hb14) (.cells #[.int .i64 t1, .int .i64 t2, v14] 32))
  obtain ⟨a14_, k14_, rfl⟩ := Kd.R_slice ho14
  have XH := Aside0.mk (Box.new w14 t1 t2 (.slice a14_ t3.length k14_))
  clear ho14 hb14
  obtain ⟨xs0, xs1, xs2⟩ := XS.out.cells
  obtain ⟨xh0, xh1, xh2⟩ := XH.out.cells
  go_wp2_with fail
  refine (laws_eqSeries.calls 5000000 t1 t2 a14_ k14_ t3 t1 t2 a3_ k3_ t3 true _ (Kd.R_reads' S9.out).2.2 (Kd.R_reads' S9.out).2.1 (Kd.R_reads' S2.out).2.2 (Kd.R_reads' S2.out).2.1 HE.out).mono ?_
  rintro e w15 ⟨rfl, hb15⟩
  replace S4 := Aside0.mk (Kd.R_below S4.out hb15)
  replace XG := Aside0.mk (XG.out.below hb15)
  replace B := Aside0.mk (below_step B.out hb15)
  clear hb15 xs0 xs1 xs2 xh0 xh1 xh2
  obtain ⟨xg0, xg1, xg2⟩ := XG.out.cells
  go_wp2_with fail
  refine (calls_of_args (by rw [LM.out]) (laws_heldSeries.calls 5000000 t1 t2 a5_ k5_ (tmarks 1 t3.length) 1 (1 + 3 * t3.length) _ (Kd.R_reads' S4.out).2.2 (by rw [LM.out]; exact (Kd.R_reads' S4.out).2.1) HH.out)).mono ?_
  rintro e w16 ⟨rfl, hb16⟩
  replace B := Aside0.mk (below_step B.out hb16)
  clear hb16 xg0 xg1 xg2
  go_wp2
  go_ret
  exact ⟨rfl, B.out⟩

set_option maxHeartbeats 4000000 in
theorem walk_big (a0 a1 : Int) (A1 : Option Addr) (c1 : Nat) (l : List Int) (w : World) (hl : (l.length : Int) > 1048576) :
    Calls Try.prog 7 #[.int .i64 a0, .int .i64 a1, .slice A1 l.length c1] w fun e w' => e = .returned (.bool true) ∧ Below w.heap.size w w' := by
  have b0 : decide ((l.length : Int) > 1048576) = true := decide_eq_true hl
  clear hl
  go_enter Try.func7, Try.ntmps7
  go_wp2
  go_ret
  exact ⟨rfl, Below.refl _ _⟩
end Go.Proofs.Ytcklefgkbddlhaa.Nest
