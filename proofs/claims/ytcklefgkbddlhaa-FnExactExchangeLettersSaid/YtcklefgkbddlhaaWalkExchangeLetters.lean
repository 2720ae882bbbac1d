/- laws.FnExactExchangeLetters, at any arguments: it returns true, and what was there before lies as it lay. -/
import Derived.Test.YtcklefgkbddlhaaPx1
import Derived.Test.YtcklefgkbddlhaaPx2
import Derived.Test.YtcklefgkbddlhaaPx3
import Derived.Test.YtcklefgkbddlhaaPx9
import Derived.Test.YtcklefgkbddlhaaBaseMarksE
import Derived.Test.YtcklefgkbddlhaaMarkSE
import Derived.Test.YtcklefgkbddlhaaMarkHE
import Derived.Test.YtcklefgkbddlhaaBaseLawE
import Derived.Test.YtcklefgkbddlhaaTabX
namespace Go.Proofs.Ytcklefgkbddlhaa.Nest
open Go.RowKit Go.Proofs.Ytcklefgkbddlhaa.P Go.Proofs.Ytcklefgkbddlhaa.Pure Go.Proofs.Ytcklefgkbddlhaa.Tab Go.Proofs.YtcklefgkbddlhaaW.PrintWords Go.Proofs.YtcklefgkbddlhaaW.PrintLast Go.Proofs.YtcklefgkbddlhaaW.PrintMore
set_option linter.unusedVariables false
set_option linter.unusedSimpArgs false

theorem own3 {α : Type} {d : Kd α} {e : Nat} {ok : Nat → Prop} {w w1 w2 : World} {v : Value} {l : List α} (h : Kd.S d e w2 w1.heap.size ok v l) (hb : Below w.heap.size w w1) : Kd.S d e w2 w.heap.size (fun k => w1.heap.size ≤ k ∧ k < w2.heap.size) v l :=
  Kd.S_lower (Kd.S_mono (Kd.S_bound h) (fun k hk => ⟨hk.2.1, hk.2.2.1⟩)) hb.size
theorem own3R {α : Type} {d : Kd α} {e : Nat} {ok : Nat → Prop} {w w1 w2 : World} {v : Value} {l : List α} (h : Kd.R d e w2 w1.heap.size ok v l) (hb : Below w.heap.size w w1) : Kd.R d e w2 w.heap.size (fun k => w1.heap.size ≤ k ∧ k < w2.heap.size) v l :=
  Kd.R_lower (Kd.R_mono (Kd.R_bound h) (fun k hk => ⟨hk.2.1, hk.2.2.1⟩)) hb.size
theorem calls_of_args {P : Program} {f : FuncId} {args args' : Array Value} {w : World} {Q : Ending → World → Prop} (h : args = args') (hc : Calls P f args' w Q) : Calls P f args w Q := h ▸ hc
/-- A variable of a series' three cells, of a type. -/
def Box (ty : Nat) (w : World) (b : Nat) (t1 t2 : Int) (v : Value) : Prop := w.heap[b]? = some (.cells #[.int .i64 t1, .int .i64 t2, v] ty (0, 0))
section
variable {ty : Nat} {w w1 : World} {b : Nat} {t1 t2 : Int} {v : Value}
theorem blk_new1 (w : World) (o : Obj) : (w.alloc o).heap[w.heap.size]? = some o := by
  show (w.heap.push o)[w.heap.size]? = some o
  simp
theorem Box.new (ty : Nat) (w : World) (t1 t2 : Int) (v : Value) : Box ty (w.alloc (.cells #[.int .i64 t1, .int .i64 t2, v] ty)) w.heap.size t1 t2 v := blk_new1 w _
theorem Box.lt (h : Box ty w b t1 t2 v) : b < w.heap.size := (Array.getElem?_eq_some_iff.1 h).1
theorem Box.below (h : Box ty w b t1 t2 v) (hb : Below w.heap.size w w1) : Box ty w1 b t1 t2 v := (hb.block b h.lt).trans h
theorem Box.kept {S : Nat → Prop} (h : Box ty w b t1 t2 v) (hk : Kept w w1 S) (hn : ¬ S b) : Box ty w1 b t1 t2 v := (hk.2 b h.lt hn).trans h
theorem Box.drewN (h : Box ty w b t1 t2 v) (n : Nat) : Box ty (w.drewN n) b t1 t2 v := h
theorem Box.alloc (h : Box ty w b t1 t2 v) (o : Obj) : Box ty (w.alloc o) b t1 t2 v := h.below (below_alloc (Below.refl _ _) o)
theorem Box.cells (h : Box ty w b t1 t2 v) : w.cell? ⟨b, 0, none⟩ = some (.int .i64 t1) ∧ w.cell? ⟨b, 1, none⟩ = some (.int .i64 t2) ∧ w.cell? ⟨b, 2, none⟩ = some v :=
  ⟨(blk_cell h 0).trans rfl, (blk_cell h 1).trans rfl, (blk_cell h 2).trans rfl⟩
end

set_option maxHeartbeats 16000000 in
set_option maxRecDepth 100000 in
theorem walk_main (d n : Int) (A0 : Option Addr) (c0 : Nat) (la : List S124) (A1 : Option Addr) (c1 : Nat) (lb : List Int) (t3 : List S89) (t t1 t2 t4 : Int) (kS kI : Nat) (w : World) (hr0 : Kd.C k124 w A0 la.length la) (hc0 : la.length ≤ c0) (hr1 : Kd.C (Kd.int .i64) w A1 lb.length lb) (hc1 : lb.length ≤ c1) (hz : laws_szSeries.f 5000000 d n la 1048576 = some t) (ht : ¬ t < 0) (hla : la.length ≤ 1048576) (hlb : lb.length ≤ 1048576) (hn : t3.length ≤ 1000) (hS : spec_ExchangeLetters.f kS d n (la.map tmOf) lb = some (t1, t2, t3, t4)) (hI : ExchangeLetters_f kI d n (la.map tmOf) lb = some (t1, t2, t3, t4)) :
    Calls Try.prog 9 #[.agg #[.int .i64 d, .int .i64 n, .slice A0 la.length c0], .slice A1 lb.length c1] w fun e w' => e = .returned (.bool true) ∧ Below w.heap.size w w' := by
  have hu24 := Try.underlying24
  have hu32 := Try.underlying32
  have hml : (la.map tmOf).length = la.length := List.length_map _
  have HS := Aside0.mk hS
  have HI := Aside0.mk hI
  have TA := Aside0.mk (toSeries_f 5000000 d n la (by omega) (by omega))
  have TB := Aside0.mk (toInt64S_f 5000000 lb (by omega) (by omega))
  have EA := Aside0.mk (eqSeries_f 5000000 d n (la.map tmOf) (by omega) (by omega))
  have HL := Aside0.mk (eqInt64S_f 5000000 lb (by omega) (by omega))
  have HE := Aside0.mk (eqSeries_f 5000000 t1 t2 t3 (by omega) (by omega))
  have HH := Aside0.mk (Tab.heldSeries_f 5000000 t1 t2 t3.length 1 hn (by omega) (by omega) (by omega))
  have HZ := Aside0.mk hz
  have RA := Aside0.mk hr0
  have CA := Aside0.mk hc0
  have RB := Aside0.mk hr1
  have CB := Aside0.mk hc1
  have NR : Aside0 (1 + 3 * (t3.length : Int) ≤ 9000000) := ⟨by omega⟩
  have M0 : Aside0 ((1 : Int) + 3 * ((la.map tmOf).length : Int) ≤ 9000000) := ⟨by omega⟩
  have M1 : Aside0 (0 ≤ (1 : Int) + 3 * ((la.map tmOf).length : Int) ∧ (1 : Int) + 3 * ((la.map tmOf).length : Int) ≤ 4000000) := ⟨by omega⟩
  have HM := Aside0.mk (markInt64S_f 5000000 lb (1 + 3 * ((la.map tmOf).length : Int)) (by omega) (by omega) (by omega) (by omega))
  have b1 : decide ((lb.length : Int) > 1048576) = false := decide_eq_false (by omega)
  have b2 : decide (1048576 < (lb.length : Int)) = false := decide_eq_false (by omega)
  have b0 : decide (t < 0) = false := decide_eq_false ht
  have q1 : decide ((1 : Int) + 3 * ((la.map tmOf).length : Int) + (lb.length : Int) < 0) = false := decide_eq_false (by omega)
  have q2 : decide ((1 : Int) + 3 * (t3.length : Int) < 0) = false := decide_eq_false (by omega)
  have LM : Aside0 ((Tab.tmarks 1 t3.length).length = t3.length) := ⟨Tab.tmarks_length _ _⟩
  clear hS hI hz hr0 hc0 hr1 hc1 hla hlb hn ht hml
  generalize hls : la.map tmOf = ls at *
  clear hls
  go_enter Try.func9, Try.ntmps9
  go_wp2_with (first | ((with_reducible refine gate_dst (N := 2) rfl ?_); refine box_event ?hg (N := 2) ?hd (cs := #[.int .i64 d, .int .i64 n, .slice A0 la.length c0]) (t := 24) ?hr ?_; (case hd => rfl); (case hg => rfl); (case hr => first | (go_simp; done) | (go_simp; rfl)); intro gb hg w0 hbox hb; have B := Aside0.mk hb; have XB := Aside0.mk (show Box 24 w0 gb d n (.slice A0 la.length c0) from hbox); obtain ⟨xb0, xb1, xb2⟩ := XB.out.cells; clear hb hbox hg))
  refine (laws_szSeries.calls 5000000 d n A0 c0 la 1048576 t _ (Kd.C_below RA.out B.out) CA.out HZ.out).mono ?_
  rintro e w1 ⟨rfl, hb⟩
  have ZG : Aside0 (gb < w1.heap.size) := ⟨Nat.lt_of_lt_of_le XB.out.lt hb.size⟩
  clear xb0 xb1 xb2
  replace XB := Aside0.mk (XB.out.below hb)
  replace B := Aside0.mk (below_step B.out hb)
  clear hb
  obtain ⟨xb0, xb1, xb2⟩ := XB.out.cells
  go_wp2_with fail
  refine (laws_toSeries.calls 5000000 d n A0 c0 la d n ls _ (Kd.C_below RA.out B.out) CA.out TA.out).mono ?_
  rintro e wt1 ⟨vt1, rfl, ho, hb⟩
  clear xb0 xb1 xb2
  have ZC1 := Aside0.mk hb.size
  replace XB := Aside0.mk (XB.out.below hb)
  replace B := Aside0.mk (below_step B.out hb)
  obtain ⟨a1_, k1_, rfl, hkk, hcc⟩ := Kd.R_reads ho
  have C1 := Aside0.mk hcc
  have K1 := Aside0.mk hkk
  clear ho hb hkk hcc
  obtain ⟨xb0, xb1, xb2⟩ := XB.out.cells
  go_wp2_with fail
  refine (laws_toInt64S.calls 5000000 A1 c1 lb lb _ (Kd.C_below RB.out B.out) CB.out TB.out).mono ?_
  rintro e wt2 ⟨vt2, rfl, ho, hb⟩
  clear xb0 xb1 xb2
  have ZC2 := Aside0.mk hb.size
  replace C1 := Aside0.mk (Kd.C_below C1.out hb)
  replace XB := Aside0.mk (XB.out.below hb)
  replace B := Aside0.mk (below_step B.out hb)
  obtain ⟨a2_, k2_, rfl, hkk, hcc⟩ := Kd.R_reads ho
  have C2 := Aside0.mk hcc
  have K2 := Aside0.mk hkk
  clear ho hb hkk hcc
  obtain ⟨xb0, xb1, xb2⟩ := XB.out.cells
  go_wp2_with fail
  refine (spec_ExchangeLetters.calls kS d n a1_ k1_ ls a2_ k2_ lb t1 t2 t3 t4 _ C1.out K1.out C2.out K2.out HS.out).mono ?_
  rintro e wt3 ⟨vt3, rfl, ho, hb⟩
  clear xb0 xb1 xb2
  have ZSW := Aside0.mk hb.size
  have SW := Aside0.mk (own3R ho B.out)
  replace XB := Aside0.mk (XB.out.below hb)
  replace B := Aside0.mk (below_step B.out hb)
  obtain ⟨a3_, k3_, rfl⟩ := Kd.R_slice ho
  clear ho hb
  replace XB := Aside0.mk (XB.out.alloc (.cells #[.int .i64 t1, .int .i64 t2, .slice a3_ t3.length k3_] 32))
  replace SW := Aside0.mk (Kd.R_alloc SW.out (.cells #[.int .i64 t1, .int .i64 t2, .slice a3_ t3.length k3_] 32))
  replace B := Aside0.mk (below_alloc B.out (.cells #[.int .i64 t1, .int .i64 t2, .slice a3_ t3.length k3_] 32))
  have XS := Aside0.mk (Box.new 32 wt3 t1 t2 (.slice a3_ t3.length k3_))
  have ZXS : Aside0 (wt3.heap.size < (wt3.alloc (.cells #[.int .i64 t1, .int .i64 t2, .slice a3_ t3.length k3_] 32)).heap.size) := ⟨XS.out.lt⟩
  clear C1 K1 C2 K2
  obtain ⟨xb0, xb1, xb2⟩ := XB.out.cells
  obtain ⟨xs0, xs1, xs2⟩ := XS.out.cells
  go_wp2_with fail
  refine (laws_toSeries.calls 5000000 d n A0 c0 la d n ls _ (Kd.C_below RA.out B.out) CA.out TA.out).mono ?_
  rintro e wt4 ⟨vt4, rfl, ho, hb⟩
  clear xb0 xb1 xb2 xs0 xs1 xs2
  have ZXA := Aside0.mk hb.size
  have XA := Aside0.mk (own3R ho B.out)
  replace XB := Aside0.mk (XB.out.below hb)
  replace SW := Aside0.mk (Kd.R_below SW.out hb)
  replace XS := Aside0.mk (XS.out.below hb)
  replace B := Aside0.mk (below_step B.out hb)
  obtain ⟨a4_, k4_, rfl, hkk, hcc⟩ := Kd.R_reads ho
  clear ho hb hkk hcc
  replace XB := Aside0.mk (XB.out.alloc (.cells #[.int .i64 d, .int .i64 n, .slice a4_ ls.length k4_] 32))
  replace SW := Aside0.mk (Kd.R_alloc SW.out (.cells #[.int .i64 d, .int .i64 n, .slice a4_ ls.length k4_] 32))
  replace XS := Aside0.mk (XS.out.alloc (.cells #[.int .i64 d, .int .i64 n, .slice a4_ ls.length k4_] 32))
  replace XA := Aside0.mk (Kd.R_alloc XA.out (.cells #[.int .i64 d, .int .i64 n, .slice a4_ ls.length k4_] 32))
  replace B := Aside0.mk (below_alloc B.out (.cells #[.int .i64 d, .int .i64 n, .slice a4_ ls.length k4_] 32))
  have XX := Aside0.mk (Box.new 32 wt4 d n (.slice a4_ ls.length k4_))
  have ZXX : Aside0 (wt4.heap.size < (wt4.alloc (.cells #[.int .i64 d, .int .i64 n, .slice a4_ ls.length k4_] 32)).heap.size) := ⟨XX.out.lt⟩
  obtain ⟨xb0, xb1, xb2⟩ := XB.out.cells
  obtain ⟨xs0, xs1, xs2⟩ := XS.out.cells
  obtain ⟨xx0, xx1, xx2⟩ := XX.out.cells
  go_wp2_with fail
  refine (laws_toInt64S.calls 5000000 A1 c1 lb lb _ (Kd.C_below RB.out B.out) CB.out TB.out).mono ?_
  rintro e wt5 ⟨vt5, rfl, ho, hb⟩
  clear xb0 xb1 xb2 xs0 xs1 xs2 xx0 xx1 xx2
  have ZXT := Aside0.mk hb.size
  have XT := Aside0.mk (own3R ho B.out)
  replace XB := Aside0.mk (XB.out.below hb)
  replace SW := Aside0.mk (Kd.R_below SW.out hb)
  replace XS := Aside0.mk (XS.out.below hb)
  replace XA := Aside0.mk (Kd.R_below XA.out hb)
  replace XX := Aside0.mk (XX.out.below hb)
  replace B := Aside0.mk (below_step B.out hb)
  obtain ⟨a5_, k5_, rfl, hkk, hcc⟩ := Kd.R_reads ho
  clear ho hb hkk hcc
  obtain ⟨xb0, xb1, xb2⟩ := XB.out.cells
  obtain ⟨xs0, xs1, xs2⟩ := XS.out.cells
  obtain ⟨xx0, xx1, xx2⟩ := XX.out.cells
  go_wp2_with fail
  refine (ExchangeLetters_calls kI d n a4_ k4_ ls a5_ k5_ lb t1 t2 t3 t4 _ (Kd.R_reads' XA.out).2.2 (Kd.R_reads' XA.out).2.1 (Kd.R_reads' XT.out).2.2 (Kd.R_reads' XT.out).2.1 HI.out).mono ?_
  rintro e wt6 ⟨vt6, rfl, ho, hb⟩
  clear xb0 xb1 xb2 xs0 xs1 xs2 xx0 xx1 xx2
  have ZSG := Aside0.mk hb.size
  have SG := Aside0.mk (own3R ho B.out)
  replace XB := Aside0.mk (XB.out.below hb)
  replace SW := Aside0.mk (Kd.R_below SW.out hb)
  replace XS := Aside0.mk (XS.out.below hb)
  replace XA := Aside0.mk (Kd.R_below XA.out hb)
  replace XX := Aside0.mk (XX.out.below hb)
  replace XT := Aside0.mk (Kd.R_below XT.out hb)
  replace B := Aside0.mk (below_step B.out hb)
  obtain ⟨a6_, k6_, rfl⟩ := Kd.R_slice ho
  clear ho hb
  replace XB := Aside0.mk (XB.out.alloc (.cells #[.int .i64 t1, .int .i64 t2, .slice a6_ t3.length k6_] 32))
  replace SW := Aside0.mk (Kd.R_alloc SW.out (.cells #[.int .i64 t1, .int .i64 t2, .slice a6_ t3.length k6_] 32))
  replace XS := Aside0.mk (XS.out.alloc (.cells #[.int .i64 t1, .int .i64 t2, .slice a6_ t3.length k6_] 32))
  replace XA := Aside0.mk (Kd.R_alloc XA.out (.cells #[.int .i64 t1, .int .i64 t2, .slice a6_ t3.length k6_] 32))
  replace XX := Aside0.mk (XX.out.alloc (.cells #[.int .i64 t1, .int .i64 t2, .slice a6_ t3.length k6_] 32))
  replace XT := Aside0.mk (Kd.R_alloc XT.out (.cells #[.int .i64 t1, .int .i64 t2, .slice a6_ t3.length k6_] 32))
  replace SG := Aside0.mk (Kd.R_alloc SG.out (.cells #[.int .i64 t1, .int .i64 t2, .slice a6_ t3.length k6_] 32))
  replace B := Aside0.mk (below_alloc B.out (.cells #[.int .i64 t1, .int .i64 t2, .slice a6_ t3.length k6_] 32))
  have XG := Aside0.mk (Box.new 32 wt6 t1 t2 (.slice a6_ t3.length k6_))
  have ZXG : Aside0 (wt6.heap.size < (wt6.alloc (.cells #[.int .i64 t1, .int .i64 t2, .slice a6_ t3.length k6_] 32)).heap.size) := ⟨XG.out.lt⟩
  obtain ⟨xb0, xb1, xb2⟩ := XB.out.cells
  obtain ⟨xs0, xs1, xs2⟩ := XS.out.cells
  obtain ⟨xx0, xx1, xx2⟩ := XX.out.cells
  obtain ⟨xg0, xg1, xg2⟩ := XG.out.cells
  go_wp2_with fail
  refine (laws_eqSeries.calls 5000000 t1 t2 a6_ k6_ t3 t1 t2 a3_ k3_ t3 true _ (Kd.R_reads' SG.out).2.2 (Kd.R_reads' SG.out).2.1 (Kd.R_reads' SW.out).2.2 (Kd.R_reads' SW.out).2.1 HE.out).mono ?_
  rintro e wt7 ⟨rfl, hb⟩
  clear xb0 xb1 xb2 xs0 xs1 xs2 xx0 xx1 xx2 xg0 xg1 xg2
  replace XB := Aside0.mk (XB.out.below hb)
  replace SW := Aside0.mk (Kd.R_below SW.out hb)
  replace XS := Aside0.mk (XS.out.below hb)
  replace XA := Aside0.mk (Kd.R_below XA.out hb)
  replace XX := Aside0.mk (XX.out.below hb)
  replace XT := Aside0.mk (Kd.R_below XT.out hb)
  replace SG := Aside0.mk (Kd.R_below SG.out hb)
  replace XG := Aside0.mk (XG.out.below hb)
  replace B := Aside0.mk (below_step B.out hb)
  clear hb
  obtain ⟨xb0, xb1, xb2⟩ := XB.out.cells
  obtain ⟨xs0, xs1, xs2⟩ := XS.out.cells
  obtain ⟨xx0, xx1, xx2⟩ := XX.out.cells
  obtain ⟨xg0, xg1, xg2⟩ := XG.out.cells
  go_wp2
  go_region_held3 (fun w' => w'.cell? ⟨gb, 0, none⟩ = some (.int .i64 d) ∧ w'.cell? ⟨gb, 1, none⟩ = some (.int .i64 n) ∧ w'.cell? ⟨gb, 2, none⟩ = some (.slice A0 la.length c0) ∧ w'.cell? ⟨wt4.heap.size, 0, none⟩ = some (.int .i64 d) ∧ w'.cell? ⟨wt4.heap.size, 1, none⟩ = some (.int .i64 n) ∧ w'.cell? ⟨wt4.heap.size, 2, none⟩ = some (.slice a4_ ls.length k4_)) (first | exact ⟨pw_cell_below hb8 xb0, pw_cell_below hb8 xb1, pw_cell_below hb8 xb2, pw_cell_below hb8 xx0, pw_cell_below hb8 xx1, pw_cell_below hb8 xx2⟩ | exact ⟨pw_cell_below hb9 (pw_cell_below hb8 xb0), pw_cell_below hb9 (pw_cell_below hb8 xb1), pw_cell_below hb9 (pw_cell_below hb8 xb2), pw_cell_below hb9 (pw_cell_below hb8 xx0), pw_cell_below hb9 (pw_cell_below hb8 xx1), pw_cell_below hb9 (pw_cell_below hb8 xx2)⟩ | go_keep)
    (first | (go_at_call 14; refine (laws_toSeries.calls 5000000 d n A0 c0 la d n ls _ (Kd.C_below RA.out (below_drew B.out)) CA.out TA.out).mono ?_; rintro e w8 ⟨v8, rfl, ho8, hb8⟩; obtain ⟨a8_, k8_, rfl, hkk8, hcc8⟩ := Kd.R_reads ho8) | (go_at_call 17; refine (laws_eqSeries.calls 5000000 d n a4_ k4_ ls d n a8_ k8_ ls true _ (Kd.R_reads' (Kd.R_below (Kd.R_drew XA.out) hb8)).2.2 (Kd.R_reads' (Kd.R_below (Kd.R_drew XA.out) hb8)).2.1 hcc8 hkk8 EA.out).mono ?_; rintro e w9 ⟨rfl, hb9⟩))
  clear xb0 xb1 xb2 xs0 xs1 xs2 xx0 xx1 xx2 xg0 xg1 xg2
  replace XB := Aside0.mk ((XB.out.below (below_step (below_drew (Below.refl _ _)) hb8)).below hb9)
  replace SW := Aside0.mk (Kd.R_below (Kd.R_below (Kd.R_drew SW.out) hb8) hb9)
  replace XS := Aside0.mk ((XS.out.below (below_step (below_drew (Below.refl _ _)) hb8)).below hb9)
  replace XA := Aside0.mk (Kd.R_below (Kd.R_below (Kd.R_drew XA.out) hb8) hb9)
  replace XX := Aside0.mk ((XX.out.below (below_step (below_drew (Below.refl _ _)) hb8)).below hb9)
  replace XT := Aside0.mk (Kd.R_below (Kd.R_below (Kd.R_drew XT.out) hb8) hb9)
  replace SG := Aside0.mk (Kd.R_below (Kd.R_below (Kd.R_drew SG.out) hb8) hb9)
  replace XG := Aside0.mk ((XG.out.below (below_step (below_drew (Below.refl _ _)) hb8)).below hb9)
  replace B := Aside0.mk (below_step (below_step (below_drew B.out) hb8) hb9)
  clear ho8 hb8 hb9 hkk8 hcc8
  obtain ⟨xb0, xb1, xb2⟩ := XB.out.cells
  obtain ⟨xs0, xs1, xs2⟩ := XS.out.cells
  obtain ⟨xx0, xx1, xx2⟩ := XX.out.cells
  obtain ⟨xg0, xg1, xg2⟩ := XG.out.cells
  go_wp2_with fail
  refine (laws_toInt64S.calls 5000000 A1 c1 lb lb _ (Kd.C_below RB.out B.out) CB.out TB.out).mono ?_
  rintro e wt9 ⟨vt9, rfl, ho, hb⟩
  clear xb0 xb1 xb2 xs0 xs1 xs2 xx0 xx1 xx2 xg0 xg1 xg2
  have ZC9 := Aside0.mk hb.size
  replace XB := Aside0.mk (XB.out.below hb)
  replace SW := Aside0.mk (Kd.R_below SW.out hb)
  replace XS := Aside0.mk (XS.out.below hb)
  replace XA := Aside0.mk (Kd.R_below XA.out hb)
  replace XX := Aside0.mk (XX.out.below hb)
  replace XT := Aside0.mk (Kd.R_below XT.out hb)
  replace SG := Aside0.mk (Kd.R_below SG.out hb)
  replace XG := Aside0.mk (XG.out.below hb)
  replace B := Aside0.mk (below_step B.out hb)
  obtain ⟨a9_, k9_, rfl, hkk, hcc⟩ := Kd.R_reads ho
  have C9 := Aside0.mk hcc
  have K9 := Aside0.mk hkk
  clear ho hb hkk hcc
  obtain ⟨xb0, xb1, xb2⟩ := XB.out.cells
  obtain ⟨xs0, xs1, xs2⟩ := XS.out.cells
  obtain ⟨xx0, xx1, xx2⟩ := XX.out.cells
  obtain ⟨xg0, xg1, xg2⟩ := XG.out.cells
  go_wp2_with fail
  refine (laws_eqInt64S.calls 5000000 a5_ k5_ lb a9_ k9_ lb true _ (Kd.R_reads' XT.out).2.2 (Kd.R_reads' XT.out).2.1 C9.out K9.out HL.out).mono ?_
  rintro e w' ⟨rfl, ne10, rfl⟩
  clear xb0 xb1 xb2 xs0 xs1 xs2 xx0 xx1 xx2 xg0 xg1 xg2
  replace XB := Aside0.mk (XB.out.drewN ne10)
  replace SW := Aside0.mk (Kd.R_drewN SW.out ne10)
  replace XS := Aside0.mk (XS.out.drewN ne10)
  replace XA := Aside0.mk (Kd.R_drewN XA.out ne10)
  replace XX := Aside0.mk (XX.out.drewN ne10)
  replace XT := Aside0.mk (Kd.R_drewN XT.out ne10)
  replace SG := Aside0.mk (Kd.R_drewN SG.out ne10)
  replace XG := Aside0.mk (XG.out.drewN ne10)
  replace B := Aside0.mk (pw_below_drewN B.out ne10)
  clear C9 K9
  obtain ⟨xb0, xb1, xb2⟩ := XB.out.cells
  obtain ⟨xs0, xs1, xs2⟩ := XS.out.cells
  obtain ⟨xx0, xx1, xx2⟩ := XX.out.cells
  obtain ⟨xg0, xg1, xg2⟩ := XG.out.cells
  go_wp2_with fail
  refine (Tab.markSeries_calls _ d n _ ls 1 w _ B.out XA.out (by omega) (by omega) M0.out).mono ?_
  rintro e wt11 ⟨rfl, ho, hb, hk⟩
  clear xb0 xb1 xb2 xs0 xs1 xs2 xx0 xx1 xx2 xg0 xg1 xg2
  replace XB := Aside0.mk (XB.out.kept hk (fun h => by have := h.1; have := h.2; have := ZG.out; have := ZC1.out; have := ZC2.out; have := ZSW.out; have := ZXS.out; have := ZXA.out; have := ZXX.out; have := ZXT.out; have := ZSG.out; have := ZXG.out; omega))
  replace SW := Aside0.mk (Kd.R_kept SW.out hk (fun k h1 h2 => by have := h1.1; have := h1.2; have := h2.1; have := h2.2; have := ZC1.out; have := ZC2.out; have := ZSW.out; have := ZXS.out; have := ZXA.out; have := ZXX.out; have := ZXT.out; have := ZSG.out; have := ZXG.out; omega))
  replace XS := Aside0.mk (XS.out.kept hk (fun h => by have := h.1; have := h.2; have := ZC1.out; have := ZC2.out; have := ZSW.out; have := ZXS.out; have := ZXA.out; have := ZXX.out; have := ZXT.out; have := ZSG.out; have := ZXG.out; omega))
  replace XX := Aside0.mk (XX.out.kept hk (fun h => by have := h.1; have := h.2; have := ZC1.out; have := ZC2.out; have := ZSW.out; have := ZXS.out; have := ZXA.out; have := ZXX.out; have := ZXT.out; have := ZSG.out; have := ZXG.out; omega))
  replace XT := Aside0.mk (Kd.R_kept XT.out hk (fun k h1 h2 => by have := h1.1; have := h1.2; have := h2.1; have := h2.2; have := ZC1.out; have := ZC2.out; have := ZSW.out; have := ZXS.out; have := ZXA.out; have := ZXX.out; have := ZXT.out; have := ZSG.out; have := ZXG.out; omega))
  replace SG := Aside0.mk (Kd.R_kept SG.out hk (fun k h1 h2 => by have := h1.1; have := h1.2; have := h2.1; have := h2.2; have := ZC1.out; have := ZC2.out; have := ZSW.out; have := ZXS.out; have := ZXA.out; have := ZXX.out; have := ZXT.out; have := ZSG.out; have := ZXG.out; omega))
  replace XG := Aside0.mk (XG.out.kept hk (fun h => by have := h.1; have := h.2; have := ZC1.out; have := ZC2.out; have := ZSW.out; have := ZXS.out; have := ZXA.out; have := ZXX.out; have := ZXT.out; have := ZSG.out; have := ZXG.out; omega))
  replace XA := Aside0.mk ho
  replace B := Aside0.mk hb
  clear ho hb hk
  obtain ⟨xb0, xb1, xb2⟩ := XB.out.cells
  obtain ⟨xs0, xs1, xs2⟩ := XS.out.cells
  obtain ⟨xx0, xx1, xx2⟩ := XX.out.cells
  obtain ⟨xg0, xg1, xg2⟩ := XG.out.cells
  go_wp2_with fail
  refine (laws_markInt64S.calls 5000000 _ _ lb (1 + 3 * (ls.length : Int)) (1 + 3 * (ls.length : Int) + lb.length) (marks (1 + 3 * (ls.length : Int)) lb.length) w _ B.out XT.out HM.out).mono ?_
  rintro e wt12 ⟨rfl, ho, hb, hk⟩
  clear xb0 xb1 xb2 xs0 xs1 xs2 xx0 xx1 xx2 xg0 xg1 xg2
  replace XB := Aside0.mk (XB.out.kept hk (fun h => by have := h.1; have := h.2; have := ZG.out; have := ZC1.out; have := ZC2.out; have := ZSW.out; have := ZXS.out; have := ZXA.out; have := ZXX.out; have := ZXT.out; have := ZSG.out; have := ZXG.out; omega))
  replace SW := Aside0.mk (Kd.R_kept SW.out hk (fun k h1 h2 => by have := h1.1; have := h1.2; have := h2.1; have := h2.2; have := ZC1.out; have := ZC2.out; have := ZSW.out; have := ZXS.out; have := ZXA.out; have := ZXX.out; have := ZXT.out; have := ZSG.out; have := ZXG.out; omega))
  replace XS := Aside0.mk (XS.out.kept hk (fun h => by have := h.1; have := h.2; have := ZC1.out; have := ZC2.out; have := ZSW.out; have := ZXS.out; have := ZXA.out; have := ZXX.out; have := ZXT.out; have := ZSG.out; have := ZXG.out; omega))
  replace XA := Aside0.mk (Kd.R_kept XA.out hk (fun k h1 h2 => by have := h1.1; have := h1.2; have := h2.1; have := h2.2; have := ZC1.out; have := ZC2.out; have := ZSW.out; have := ZXS.out; have := ZXA.out; have := ZXX.out; have := ZXT.out; have := ZSG.out; have := ZXG.out; omega))
  replace XX := Aside0.mk (XX.out.kept hk (fun h => by have := h.1; have := h.2; have := ZC1.out; have := ZC2.out; have := ZSW.out; have := ZXS.out; have := ZXA.out; have := ZXX.out; have := ZXT.out; have := ZSG.out; have := ZXG.out; omega))
  replace SG := Aside0.mk (Kd.R_kept SG.out hk (fun k h1 h2 => by have := h1.1; have := h1.2; have := h2.1; have := h2.2; have := ZC1.out; have := ZC2.out; have := ZSW.out; have := ZXS.out; have := ZXA.out; have := ZXX.out; have := ZXT.out; have := ZSG.out; have := ZXG.out; omega))
  replace XG := Aside0.mk (XG.out.kept hk (fun h => by have := h.1; have := h.2; have := ZC1.out; have := ZC2.out; have := ZSW.out; have := ZXS.out; have := ZXA.out; have := ZXX.out; have := ZXT.out; have := ZSG.out; have := ZXG.out; omega))
  replace XT := Aside0.mk ho
  replace B := Aside0.mk hb
  clear ho hb hk
  clear XA
  clear XT
  clear XX
  obtain ⟨xb0, xb1, xb2⟩ := XB.out.cells
  obtain ⟨xs0, xs1, xs2⟩ := XS.out.cells
  obtain ⟨xg0, xg1, xg2⟩ := XG.out.cells
  go_wp2_with fail
  refine (laws_eqSeries.calls 5000000 t1 t2 a6_ k6_ t3 t1 t2 a3_ k3_ t3 true _ (Kd.R_reads' SG.out).2.2 (Kd.R_reads' SG.out).2.1 (Kd.R_reads' SW.out).2.2 (Kd.R_reads' SW.out).2.1 HE.out).mono ?_
  rintro e wt13 ⟨rfl, hb⟩
  clear xb0 xb1 xb2 xs0 xs1 xs2 xg0 xg1 xg2
  replace XB := Aside0.mk (XB.out.below hb)
  replace SW := Aside0.mk (Kd.R_below SW.out hb)
  replace XS := Aside0.mk (XS.out.below hb)
  replace SG := Aside0.mk (Kd.R_below SG.out hb)
  replace XG := Aside0.mk (XG.out.below hb)
  replace B := Aside0.mk (below_step B.out hb)
  clear hb
  obtain ⟨xb0, xb1, xb2⟩ := XB.out.cells
  obtain ⟨xs0, xs1, xs2⟩ := XS.out.cells
  obtain ⟨xg0, xg1, xg2⟩ := XG.out.cells
  go_wp2_with fail
  refine (Tab.markSeries_calls _ t1 t2 _ t3 1 w _ B.out SG.out (by omega) (by omega) NR.out).mono ?_
  rintro e wt14 ⟨rfl, ho, hb, hk⟩
  clear xb0 xb1 xb2 xs0 xs1 xs2 xg0 xg1 xg2
  replace XB := Aside0.mk (XB.out.kept hk (fun h => by have := h.1; have := h.2; have := ZG.out; have := ZC1.out; have := ZC2.out; have := ZSW.out; have := ZXS.out; have := ZXA.out; have := ZXX.out; have := ZXT.out; have := ZSG.out; have := ZXG.out; omega))
  replace SW := Aside0.mk (Kd.R_kept SW.out hk (fun k h1 h2 => by have := h1.1; have := h1.2; have := h2.1; have := h2.2; have := ZC1.out; have := ZC2.out; have := ZSW.out; have := ZXS.out; have := ZXA.out; have := ZXX.out; have := ZXT.out; have := ZSG.out; have := ZXG.out; omega))
  replace XS := Aside0.mk (XS.out.kept hk (fun h => by have := h.1; have := h.2; have := ZC1.out; have := ZC2.out; have := ZSW.out; have := ZXS.out; have := ZXA.out; have := ZXX.out; have := ZXT.out; have := ZSG.out; have := ZXG.out; omega))
  replace XG := Aside0.mk (XG.out.kept hk (fun h => by have := h.1; have := h.2; have := ZC1.out; have := ZC2.out; have := ZSW.out; have := ZXS.out; have := ZXA.out; have := ZXX.out; have := ZXT.out; have := ZSG.out; have := ZXG.out; omega))
  replace SG := Aside0.mk ho
  replace B := Aside0.mk hb
  clear ho hb hk
  obtain ⟨xb0, xb1, xb2⟩ := XB.out.cells
  obtain ⟨xs0, xs1, xs2⟩ := XS.out.cells
  obtain ⟨xg0, xg1, xg2⟩ := XG.out.cells
  go_wp2_with fail
  refine (calls_of_args (by rw [LM.out]) (laws_heldSeries.calls 5000000 t1 t2 a6_ k6_ (Tab.tmarks 1 t3.length) 1 (1 + 3 * t3.length) _ (Kd.R_reads' SG.out).2.2 (by rw [LM.out]; exact (Kd.R_reads' SG.out).2.1) HH.out)).mono ?_
  rintro e wt15 ⟨rfl, hb⟩
  clear xb0 xb1 xb2 xs0 xs1 xs2 xg0 xg1 xg2
  replace XB := Aside0.mk (XB.out.below hb)
  replace SW := Aside0.mk (Kd.R_below SW.out hb)
  replace XS := Aside0.mk (XS.out.below hb)
  replace SG := Aside0.mk (Kd.R_below SG.out hb)
  replace XG := Aside0.mk (XG.out.below hb)
  replace B := Aside0.mk (below_step B.out hb)
  clear hb
  obtain ⟨xb0, xb1, xb2⟩ := XB.out.cells
  obtain ⟨xs0, xs1, xs2⟩ := XS.out.cells
  obtain ⟨xg0, xg1, xg2⟩ := XG.out.cells
  go_wp2_with fail
  refine (laws_toSeries.calls 5000000 d n A0 c0 la d n ls _ (Kd.C_below RA.out B.out) CA.out TA.out).mono ?_
  rintro e wt16 ⟨vt16, rfl, ho, hb⟩
  clear xb0 xb1 xb2 xs0 xs1 xs2 xg0 xg1 xg2
  have ZC16 := Aside0.mk hb.size
  replace XB := Aside0.mk (XB.out.below hb)
  replace SW := Aside0.mk (Kd.R_below SW.out hb)
  replace XS := Aside0.mk (XS.out.below hb)
  replace SG := Aside0.mk (Kd.R_below SG.out hb)
  replace XG := Aside0.mk (XG.out.below hb)
  replace B := Aside0.mk (below_step B.out hb)
  obtain ⟨a16_, k16_, rfl, hkk, hcc⟩ := Kd.R_reads ho
  have C16 := Aside0.mk hcc
  have K16 := Aside0.mk hkk
  clear ho hb hkk hcc
  obtain ⟨xb0, xb1, xb2⟩ := XB.out.cells
  obtain ⟨xs0, xs1, xs2⟩ := XS.out.cells
  obtain ⟨xg0, xg1, xg2⟩ := XG.out.cells
  go_wp2_with fail
  refine (laws_toInt64S.calls 5000000 A1 c1 lb lb _ (Kd.C_below RB.out B.out) CB.out TB.out).mono ?_
  rintro e wt17 ⟨vt17, rfl, ho, hb⟩
  clear xb0 xb1 xb2 xs0 xs1 xs2 xg0 xg1 xg2
  have ZC17 := Aside0.mk hb.size
  replace C16 := Aside0.mk (Kd.C_below C16.out hb)
  replace XB := Aside0.mk (XB.out.below hb)
  replace SW := Aside0.mk (Kd.R_below SW.out hb)
  replace XS := Aside0.mk (XS.out.below hb)
  replace SG := Aside0.mk (Kd.R_below SG.out hb)
  replace XG := Aside0.mk (XG.out.below hb)
  replace B := Aside0.mk (below_step B.out hb)
  obtain ⟨a17_, k17_, rfl, hkk, hcc⟩ := Kd.R_reads ho
  have C17 := Aside0.mk hcc
  have K17 := Aside0.mk hkk
  clear ho hb hkk hcc
  obtain ⟨xb0, xb1, xb2⟩ := XB.out.cells
  obtain ⟨xs0, xs1, xs2⟩ := XS.out.cells
  obtain ⟨xg0, xg1, xg2⟩ := XG.out.cells
  go_wp2_with fail
  refine (ExchangeLetters_calls kI d n a16_ k16_ ls a17_ k17_ lb t1 t2 t3 t4 _ C16.out K16.out C17.out K17.out HI.out).mono ?_
  rintro e wt18 ⟨vt18, rfl, ho, hb⟩
  clear xb0 xb1 xb2 xs0 xs1 xs2 xg0 xg1 xg2
  have ZSH := Aside0.mk hb.size
  have SH := Aside0.mk (own3R ho B.out)
  replace XB := Aside0.mk (XB.out.below hb)
  replace SW := Aside0.mk (Kd.R_below SW.out hb)
  replace XS := Aside0.mk (XS.out.below hb)
  replace SG := Aside0.mk (Kd.R_below SG.out hb)
  replace XG := Aside0.mk (XG.out.below hb)
  replace B := Aside0.mk (below_step B.out hb)
  obtain ⟨a18_, k18_, rfl⟩ := Kd.R_slice ho
  clear ho hb
  replace XB := Aside0.mk (XB.out.alloc (.cells #[.int .i64 t1, .int .i64 t2, .slice a18_ t3.length k18_] 32))
  replace SW := Aside0.mk (Kd.R_alloc SW.out (.cells #[.int .i64 t1, .int .i64 t2, .slice a18_ t3.length k18_] 32))
  replace XS := Aside0.mk (XS.out.alloc (.cells #[.int .i64 t1, .int .i64 t2, .slice a18_ t3.length k18_] 32))
  replace SG := Aside0.mk (Kd.R_alloc SG.out (.cells #[.int .i64 t1, .int .i64 t2, .slice a18_ t3.length k18_] 32))
  replace XG := Aside0.mk (XG.out.alloc (.cells #[.int .i64 t1, .int .i64 t2, .slice a18_ t3.length k18_] 32))
  replace SH := Aside0.mk (Kd.R_alloc SH.out (.cells #[.int .i64 t1, .int .i64 t2, .slice a18_ t3.length k18_] 32))
  replace B := Aside0.mk (below_alloc B.out (.cells #[.int .i64 t1, .int .i64 t2, .slice a18_ t3.length k18_] 32))
  have XH := Aside0.mk (Box.new 32 wt18 t1 t2 (.slice a18_ t3.length k18_))
  have ZXH : Aside0 (wt18.heap.size < (wt18.alloc (.cells #[.int .i64 t1, .int .i64 t2, .slice a18_ t3.length k18_] 32)).heap.size) := ⟨XH.out.lt⟩
  clear C16 K16 C17 K17
  obtain ⟨xb0, xb1, xb2⟩ := XB.out.cells
  obtain ⟨xs0, xs1, xs2⟩ := XS.out.cells
  obtain ⟨xg0, xg1, xg2⟩ := XG.out.cells
  obtain ⟨xh0, xh1, xh2⟩ := XH.out.cells
  go_wp2_with fail
  refine (laws_eqSeries.calls 5000000 t1 t2 a18_ k18_ t3 t1 t2 a3_ k3_ t3 true _ (Kd.R_reads' SH.out).2.2 (Kd.R_reads' SH.out).2.1 (Kd.R_reads' SW.out).2.2 (Kd.R_reads' SW.out).2.1 HE.out).mono ?_
  rintro e wt19 ⟨rfl, hb⟩
  clear xb0 xb1 xb2 xs0 xs1 xs2 xg0 xg1 xg2 xh0 xh1 xh2
  replace XB := Aside0.mk (XB.out.below hb)
  replace SW := Aside0.mk (Kd.R_below SW.out hb)
  replace XS := Aside0.mk (XS.out.below hb)
  replace SG := Aside0.mk (Kd.R_below SG.out hb)
  replace XG := Aside0.mk (XG.out.below hb)
  replace SH := Aside0.mk (Kd.R_below SH.out hb)
  replace XH := Aside0.mk (XH.out.below hb)
  replace B := Aside0.mk (below_step B.out hb)
  clear hb
  obtain ⟨xb0, xb1, xb2⟩ := XB.out.cells
  obtain ⟨xs0, xs1, xs2⟩ := XS.out.cells
  obtain ⟨xg0, xg1, xg2⟩ := XG.out.cells
  obtain ⟨xh0, xh1, xh2⟩ := XH.out.cells
  go_wp2_with fail
  refine (calls_of_args (by rw [LM.out]) (laws_heldSeries.calls 5000000 t1 t2 a6_ k6_ (Tab.tmarks 1 t3.length) 1 (1 + 3 * t3.length) _ (Kd.R_reads' SG.out).2.2 (by rw [LM.out]; exact (Kd.R_reads' SG.out).2.1) HH.out)).mono ?_
  rintro e wt20 ⟨rfl, hb⟩
  clear xb0 xb1 xb2 xs0 xs1 xs2 xg0 xg1 xg2 xh0 xh1 xh2
  replace XB := Aside0.mk (XB.out.below hb)
  replace SW := Aside0.mk (Kd.R_below SW.out hb)
  replace XS := Aside0.mk (XS.out.below hb)
  replace SG := Aside0.mk (Kd.R_below SG.out hb)
  replace XG := Aside0.mk (XG.out.below hb)
  replace SH := Aside0.mk (Kd.R_below SH.out hb)
  replace XH := Aside0.mk (XH.out.below hb)
  replace B := Aside0.mk (below_step B.out hb)
  clear hb
  go_wp2
  go_ret
  exact ⟨rfl, B.out⟩

set_option maxHeartbeats 4000000 in
theorem walk_long (d n : Int) (A0 : Option Addr) (c0 : Nat) (la : List S124) (A1 : Option Addr) (c1 : Nat) (lb : List Int) (w : World) (hr0 : Kd.C k124 w A0 la.length la) (hc0 : la.length ≤ c0) (hr1 : Kd.C (Kd.int .i64) w A1 lb.length lb) (hc1 : lb.length ≤ c1) (hl : ¬ lb.length ≤ 1048576) :
    Calls Try.prog 9 #[.agg #[.int .i64 d, .int .i64 n, .slice A0 la.length c0], .slice A1 lb.length c1] w fun e w' => e = .returned (.bool true) ∧ Below w.heap.size w w' := by
  have hu24 := Try.underlying24
  have b1 : decide ((lb.length : Int) > 1048576) = true := decide_eq_true (by omega)
  have b2 : decide (1048576 < (lb.length : Int)) = true := decide_eq_true (by omega)
  clear hr0 hc0 hr1 hc1 hl
  go_enter Try.func9, Try.ntmps9
  go_wp2_with (first | ((with_reducible refine gate_dst (N := 2) rfl ?_); refine box_event ?hg (N := 2) ?hd (cs := #[.int .i64 d, .int .i64 n, .slice A0 la.length c0]) (t := 24) ?hr ?_; (case hd => rfl); (case hg => rfl); (case hr => first | (go_simp; done) | (go_simp; rfl)); intro gb hg w0 hbox hb; have B := Aside0.mk hb; have XB := Aside0.mk (show Box 24 w0 gb d n (.slice A0 la.length c0) from hbox); obtain ⟨xb0, xb1, xb2⟩ := XB.out.cells; clear hb hbox hg))
  go_ret
  exact ⟨rfl, B.out⟩
set_option maxHeartbeats 4000000 in
theorem walk_big (d n : Int) (A0 : Option Addr) (c0 : Nat) (la : List S124) (A1 : Option Addr) (c1 : Nat) (lb : List Int) (t : Int) (w : World) (hr0 : Kd.C k124 w A0 la.length la) (hc0 : la.length ≤ c0) (hr1 : Kd.C (Kd.int .i64) w A1 lb.length lb) (hc1 : lb.length ≤ c1) (hl : lb.length ≤ 1048576) (hz : laws_szSeries.f 5000000 d n la 1048576 = some t) (ht : t < 0) :
    Calls Try.prog 9 #[.agg #[.int .i64 d, .int .i64 n, .slice A0 la.length c0], .slice A1 lb.length c1] w fun e w' => e = .returned (.bool true) ∧ Below w.heap.size w w' := by
  have hu24 := Try.underlying24
  have HZ := Aside0.mk hz
  have RA := Aside0.mk hr0
  have CA := Aside0.mk hc0
  have b0 : decide (t < 0) = true := decide_eq_true ht
  have b1 : decide ((lb.length : Int) > 1048576) = false := decide_eq_false (by omega)
  have b2 : decide (1048576 < (lb.length : Int)) = false := decide_eq_false (by omega)
  clear hz hr0 hc0 ht hl
  go_enter Try.func9, Try.ntmps9
  go_wp2_with (first | ((with_reducible refine gate_dst (N := 2) rfl ?_); refine box_event ?hg (N := 2) ?hd (cs := #[.int .i64 d, .int .i64 n, .slice A0 la.length c0]) (t := 24) ?hr ?_; (case hd => rfl); (case hg => rfl); (case hr => first | (go_simp; done) | (go_simp; rfl)); intro gb hg w0 hbox hb; have B := Aside0.mk hb; have XB := Aside0.mk (show Box 24 w0 gb d n (.slice A0 la.length c0) from hbox); obtain ⟨xb0, xb1, xb2⟩ := XB.out.cells; clear hb hbox hg))
  refine (laws_szSeries.calls 5000000 d n A0 c0 la 1048576 t _ (Kd.C_below RA.out B.out) CA.out HZ.out).mono ?_
  rintro e w1 ⟨rfl, hb⟩
  go_wp2
  go_ret
  exact ⟨rfl, below_step B.out hb⟩
end Go.Proofs.Ytcklefgkbddlhaa.Nest
