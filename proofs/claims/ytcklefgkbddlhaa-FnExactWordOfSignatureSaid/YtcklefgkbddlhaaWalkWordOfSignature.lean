/- laws.FnExactWordOfSignature, at any argument: it returns true, and what was there before lies as it lay. -/
import Derived.Test.YtcklefgkbddlhaaPx1
import Derived.Test.YtcklefgkbddlhaaPx2
import Derived.Test.YtcklefgkbddlhaaPx9
import Derived.Test.YtcklefgkbddlhaaMarkX
import Derived.Test.YtcklefgkbddlhaaTabZW
namespace Go.Proofs.Ytcklefgkbddlhaa.Nest
open Go.RowKit Go.Proofs.Ytcklefgkbddlhaa.P Go.Proofs.Ytcklefgkbddlhaa.Pure Go.Proofs.Ytcklefgkbddlhaa.Tab Go.Proofs.YtcklefgkbddlhaaW.PrintWords Go.Proofs.YtcklefgkbddlhaaW.PrintLast Go.Proofs.YtcklefgkbddlhaaW.PrintMore
set_option linter.unusedVariables false
set_option linter.unusedSimpArgs false

theorem own3V {α : Type} {d : Kd α} {e : Nat} {w w1 w2 : World} {v : Value} {l : List α} (h : Kd.V d e w2 w1.heap.size (fun k => w1.heap.size ≤ k) v l) : Kd.V d e w2 w.heap.size (fun k => w1.heap.size ≤ k ∧ k < w2.heap.size) v l := Kd.V_bound h
theorem own3R {α : Type} {d : Kd α} {e : Nat} {ok : Nat → Prop} {w w1 w2 : World} {v : Value} {l : List α} (h : Kd.R d e w2 w1.heap.size ok v l) (hb : Below w.heap.size w w1) : Kd.R d e w2 w.heap.size (fun k => w1.heap.size ≤ k ∧ k < w2.heap.size) v l :=
 Kd.R_lower (Kd.R_mono (Kd.R_bound h) (fun k hk => ⟨hk.2.1, hk.2.2.1⟩)) hb.size
theorem calls_of_args {P : Program} {f : FuncId} {args args' : Array Value} {w : World} {Q : Ending → World → Prop} (h : args = args') (hc : Calls P f args' w Q) : Calls P f args w Q := h ▸ hc
/-- A variable of a series' three cells, of a type. -/
def Box (ty : Nat) (w : World) (b : Nat) (t1 t2 : Int) (v : Value) : Prop := w.heap[b]? = some (.cells #[.int .i64 t1, .int .i64 t2, v] ty (0, 0))
section
variable {ty : Nat} {w w1 : World} {b : Nat} {t1 t2 : Int} {v : Value}
theorem blk_new1 (w : World) (o : Obj) : (w.alloc o).heap[w.heap.size]? = some o := by
 show (w.heap.push o)[w.heap.size]? = some o
 simp
theorem Box.new (ty : Nat) (w : World) (t1 t2 : Int) (v : Value) : Box ty (w.alloc (.cells #[.int .i64 t1, .int .i64 t2, v] ty)) w.heap.size t1 t2 v := blk_new1 w _
theorem Box.lt (h : Box ty w b t1 t2 v) : b < w.heap.size := (Array.getElem?_eq_some_iff.1 h).1
theorem Box.below (h : Box ty w b t1 t2 v) (hb : Below w.heap.size w w1) : Box ty w1 b t1 t2 v := (hb.block b h.lt).trans h
theorem Box.kept {S : Nat → Prop} (h : Box ty w b t1 t2 v) (hk : Kept w w1 S) (hn : ¬ S b) : Box ty w1 b t1 t2 v := (hk.2 b h.lt hn).trans h
theorem Box.drewN (h : Box ty w b t1 t2 v) (n : Nat) : Box ty (w.drewN n) b t1 t2 v := h
theorem Box.alloc (h : Box ty w b t1 t2 v) (o : Obj) : Box ty (w.alloc o) b t1 t2 v := h.below (below_alloc (Below.refl _ _) o)
theorem Box.cells (h : Box ty w b t1 t2 v) : w.cell? ⟨b, 0, none⟩ = some (.int .i64 t1) ∧ w.cell? ⟨b, 1, none⟩ = some (.int .i64 t2) ∧ w.cell? ⟨b, 2, none⟩ = some v :=
 ⟨(blk_cell h 0).trans rfl, (blk_cell h 1).trans rfl, (blk_cell h 2).trans rfl⟩
end


set_option maxHeartbeats 16000000 in
set_option maxRecDepth 100000 in
theorem walk_main (d n : Int) (A0 : Option Addr) (c0 : Nat) (la : List S124) (lr : List Int) (t rc : Int) (kS kI : Nat) (w : World) (hr0 : Kd.C k124 w A0 la.length la) (hc0 : la.length ≤ c0) (hz : laws_szSeries.f 5000000 d n la 1048576 = some t) (ht : ¬ t < 0) (hla : la.length ≤ 1048576) (hn : lr.length ≤ 1000) (hS : spec_WordOfSignature.f kS d n (la.map tmOf) = some (lr, rc)) (hI : WordOfSignature_f kI d n (la.map tmOf) = some (lr, rc)) :
 Calls Try.prog 8 #[.agg #[.int .i64 d, .int .i64 n, .slice A0 la.length c0]] w fun e w' => e = .returned (.bool true) ∧ Below w.heap.size w w' := by
 have hu24 := Try.underlying24
 have hu32 := Try.underlying32
 have hml : (la.map tmOf).length = la.length := List.length_map _
 have HS := zA hS
 have HI := zA hI
 have TA := zA (toSeries_f 5000000 d n la (by omega) (by omega))
 have EA := zA (eqSeries_f 5000000 d n (la.map tmOf) (by omega) (by omega))
 have HE := zA (eqInt64S_f 5000000 lr (by omega) (by omega))
 have HM := zA (markInt64S_f 5000000 lr 1 (by omega) (by omega) (by omega) (by omega))
 have HH := zA (heldInt64S_f 5000000 1 lr.length (by omega) (by omega) (by omega) (by omega))
 have HZ := zA hz
 have RA := zA hr0
 have CA := zA hc0
 have M0 : Aside0 ((1 : Int) + 3 * ((la.map tmOf).length : Int) ≤ 9000000) := ⟨by omega⟩
 have b0 : decide (t < 0) = false := decide_eq_false ht
 have q1 : decide ((1 : Int) + 3 * ((la.map tmOf).length : Int) < 0) = false := decide_eq_false (by omega)
 have q2 : decide ((1 : Int) + (lr.length : Int) < 0) = false := decide_eq_false (by omega)
 have LM : Aside0 ((marks 1 lr.length).length = lr.length) := ⟨marks_length _ _⟩
 clear hS hI hz hr0 hc0 hla hn ht hml
 generalize hls : la.map tmOf = ls at *
 clear hls
 go_enter Try.func8, Try.ntmps8
 go_wp2_with (first | ((with_reducible refine gate_dst (N := 1) rfl ?_); refine box_event ?hg (N := 1) ?hd (cs := #[.int .i64 d, .int .i64 n, .slice A0 la.length c0]) (t := 24) ?hr ?_; (case hd => rfl); (case hg => rfl); (case hr => first | (go_simp; done) | (go_simp; rfl)); intro gb hg w0 hbox hb; have B := zA hb; have XB := zA (show Box 24 w0 gb d n (.slice A0 la.length c0) from hbox); obtain ⟨xb0, xb1, xb2⟩ := XB.out.cells; clear hb hbox hg))
 refine (laws_szSeries.calls 5000000 d n A0 c0 la 1048576 t _ (Kd.C_below RA.out B.out) CA.out HZ.out).mono ?_
 rintro e w1 ⟨rfl, hb⟩
 have ZG : Aside0 (gb < w1.heap.size) := ⟨Nat.lt_of_lt_of_le XB.out.lt hb.size⟩
 clear xb0 xb1 xb2
 replace XB := zA (XB.out.below hb)
 replace B := zA (below_step B.out hb)
 clear hb
 obtain ⟨xb0, xb1, xb2⟩ := XB.out.cells
 go_wp2_with fail
 refine (laws_toSeries.calls 5000000 d n A0 c0 la d n ls _ (Kd.C_below RA.out B.out) CA.out TA.out).mono ?_
 rintro e wt1 ⟨vt1, rfl, ho, hb⟩
 clear xb0 xb1 xb2
 have ZC1 := zA hb.size
 replace XB := zA (XB.out.below hb)
 replace B := zA (below_step B.out hb)
 obtain ⟨a1_, k1_, rfl, hkk, hcc⟩ := Kd.R_reads ho
 have C1 := zA hcc
 have K1 := zA hkk
 clear ho hb hkk hcc
 obtain ⟨xb0, xb1, xb2⟩ := XB.out.cells
 go_wp2_with fail
 refine (spec_WordOfSignature.calls kS d n a1_ k1_ ls lr rc _ C1.out K1.out HS.out).mono ?_
 rintro e wt2 ⟨vt2, rfl, ho, hb⟩
 clear xb0 xb1 xb2
 have ZSW := zA hb.size
 have SW := zA (own3V (w := w) ho)
 replace XB := zA (XB.out.below hb)
 replace B := zA (below_step B.out hb)
 obtain ⟨a2_, k2_, rfl⟩ := Kd.V_slice ho
 clear ho hb
 clear C1 K1
 obtain ⟨xb0, xb1, xb2⟩ := XB.out.cells
 go_wp2_with fail
 refine (laws_toSeries.calls 5000000 d n A0 c0 la d n ls _ (Kd.C_below RA.out B.out) CA.out TA.out).mono ?_
 rintro e wt3 ⟨vt3, rfl, ho, hb⟩
 clear xb0 xb1 xb2
 have ZXA := zA hb.size
 have XA := zA (own3R ho B.out)
 replace XB := zA (XB.out.below hb)
 replace SW := zA (Kd.V_below SW.out hb)
 replace B := zA (below_step B.out hb)
 obtain ⟨a3_, k3_, rfl, hkk, hcc⟩ := Kd.R_reads ho
 clear ho hb hkk hcc
 replace XB := zA (XB.out.alloc (.cells #[.int .i64 d, .int .i64 n, .slice a3_ ls.length k3_] 32))
 replace SW := zA (Kd.V_alloc SW.out (.cells #[.int .i64 d, .int .i64 n, .slice a3_ ls.length k3_] 32))
 replace XA := zA (Kd.R_alloc XA.out (.cells #[.int .i64 d, .int .i64 n, .slice a3_ ls.length k3_] 32))
 replace B := zA (below_alloc B.out (.cells #[.int .i64 d, .int .i64 n, .slice a3_ ls.length k3_] 32))
 have XX := zA (Box.new 32 wt3 d n (.slice a3_ ls.length k3_))
 have ZXX : Aside0 (wt3.heap.size < (wt3.alloc (.cells #[.int .i64 d, .int .i64 n, .slice a3_ ls.length k3_] 32)).heap.size) := ⟨XX.out.lt⟩
 obtain ⟨xb0, xb1, xb2⟩ := XB.out.cells
 obtain ⟨xx0, xx1, xx2⟩ := XX.out.cells
 go_wp2_with fail
 refine (WordOfSignature_calls kI d n a3_ k3_ ls lr rc _ (Kd.R_reads' XA.out).2.2 (Kd.R_reads' XA.out).2.1 HI.out).mono ?_
 rintro e wt4 ⟨vt4, rfl, ho, hb⟩
 clear xb0 xb1 xb2 xx0 xx1 xx2
 have ZSG := zA hb.size
 have SG := zA (own3R ho B.out)
 replace XB := zA (XB.out.below hb)
 replace SW := zA (Kd.V_below SW.out hb)
 replace XA := zA (Kd.R_below XA.out hb)
 replace XX := zA (XX.out.below hb)
 replace B := zA (below_step B.out hb)
 obtain ⟨a4_, k4_, rfl⟩ := Kd.R_slice ho
 clear ho hb
 obtain ⟨xb0, xb1, xb2⟩ := XB.out.cells
 obtain ⟨xx0, xx1, xx2⟩ := XX.out.cells
 go_wp2_with fail
 refine (laws_eqInt64S.calls 5000000 a4_ k4_ lr a2_ k2_ lr true _ (Kd.R_reads' SG.out).2.2 (Kd.R_reads' SG.out).2.1 (Kd.V_reads' SW.out).2.2 (Kd.V_reads' SW.out).2.1 HE.out).mono ?_
 rintro e w' ⟨rfl, ne5, rfl⟩
 clear xb0 xb1 xb2 xx0 xx1 xx2
 replace XB := zA (XB.out.drewN ne5)
 replace SW := zA (Kd.V_drewN SW.out ne5)
 replace XA := zA (Kd.R_drewN XA.out ne5)
 replace XX := zA (XX.out.drewN ne5)
 replace SG := zA (Kd.R_drewN SG.out ne5)
 replace B := zA (pw_below_drewN B.out ne5)
 obtain ⟨xb0, xb1, xb2⟩ := XB.out.cells
 obtain ⟨xx0, xx1, xx2⟩ := XX.out.cells
 go_wp2
 go_region_held3 (fun w' => w'.cell? ⟨gb, 0, none⟩ = some (.int .i64 d) ∧ w'.cell? ⟨gb, 1, none⟩ = some (.int .i64 n) ∧ w'.cell? ⟨gb, 2, none⟩ = some (.slice A0 la.length c0) ∧ w'.cell? ⟨wt3.heap.size, 0, none⟩ = some (.int .i64 d) ∧ w'.cell? ⟨wt3.heap.size, 1, none⟩ = some (.int .i64 n) ∧ w'.cell? ⟨wt3.heap.size, 2, none⟩ = some (.slice a3_ ls.length k3_)) (first | exact ⟨pw_cell_below (below_drew (Below.refl _ _)) xb0, pw_cell_below (below_drew (Below.refl _ _)) xb1, pw_cell_below (below_drew (Below.refl _ _)) xb2, pw_cell_below (below_drew (Below.refl _ _)) xx0, pw_cell_below (below_drew (Below.refl _ _)) xx1, pw_cell_below (below_drew (Below.refl _ _)) xx2⟩ | exact ⟨pw_cell_below hb8 xb0, pw_cell_below hb8 xb1, pw_cell_below hb8 xb2, pw_cell_below hb8 xx0, pw_cell_below hb8 xx1, pw_cell_below hb8 xx2⟩ | exact ⟨pw_cell_below hb9 (pw_cell_below hb8 xb0), pw_cell_below hb9 (pw_cell_below hb8 xb1), pw_cell_below hb9 (pw_cell_below hb8 xb2), pw_cell_below hb9 (pw_cell_below hb8 xx0), pw_cell_below hb9 (pw_cell_below hb8 xx1), pw_cell_below hb9 (pw_cell_below hb8 xx2)⟩ | go_keep)
  (first | (go_at_call 14; refine (laws_toSeries.calls 5000000 d n A0 c0 la d n ls _ (Kd.C_below RA.out (below_drew B.out)) CA.out TA.out).mono ?_; rintro e w8 ⟨v8, rfl, ho8, hb8⟩; obtain ⟨a8_, k8_, rfl, hkk8, hcc8⟩ := Kd.R_reads ho8) | (go_at_call 17; refine (laws_eqSeries.calls 5000000 d n a3_ k3_ ls d n a8_ k8_ ls true _ (Kd.R_reads' (Kd.R_below (Kd.R_drew XA.out) hb8)).2.2 (Kd.R_reads' (Kd.R_below (Kd.R_drew XA.out) hb8)).2.1 hcc8 hkk8 EA.out).mono ?_; rintro e w9 ⟨rfl, hb9⟩))
 clear xb0 xb1 xb2 xx0 xx1 xx2
 replace XB := zA ((XB.out.below (below_step (below_drew (Below.refl _ _)) hb8)).below hb9)
 replace SW := zA (Kd.V_below (Kd.V_below (Kd.V_drew SW.out) hb8) hb9)
 replace XA := zA (Kd.R_below (Kd.R_below (Kd.R_drew XA.out) hb8) hb9)
 replace XX := zA ((XX.out.below (below_step (below_drew (Below.refl _ _)) hb8)).below hb9)
 replace SG := zA (Kd.R_below (Kd.R_below (Kd.R_drew SG.out) hb8) hb9)
 replace B := zA (below_step (below_step (below_drew B.out) hb8) hb9)
 clear ho8 hb8 hb9 hkk8 hcc8
 obtain ⟨xb0, xb1, xb2⟩ := XB.out.cells
 obtain ⟨xx0, xx1, xx2⟩ := XX.out.cells
 go_wp2_with fail
 refine (Tab.markSeries_calls _ d n _ ls 1 w _ B.out XA.out (by omega) (by omega) M0.out).mono ?_
 rintro e wt7 ⟨rfl, ho, hb, hk⟩
 clear xb0 xb1 xb2 xx0 xx1 xx2
 replace XB := zA (XB.out.kept hk (fun h => by have := h.1; have := h.2; have := ZG.out; have := ZC1.out; have := ZSW.out; have := ZXA.out; have := ZXX.out; have := ZSG.out; omega))
 replace SW := zA (Kd.V_kept SW.out hk (fun k h1 h2 => by have := h1.1; have := h1.2; have := h2.1; have := h2.2; have := ZC1.out; have := ZSW.out; have := ZXA.out; have := ZXX.out; have := ZSG.out; omega))
 replace XX := zA (XX.out.kept hk (fun h => by have := h.1; have := h.2; have := ZC1.out; have := ZSW.out; have := ZXA.out; have := ZXX.out; have := ZSG.out; omega))
 replace SG := zA (Kd.R_kept SG.out hk (fun k h1 h2 => by have := h1.1; have := h1.2; have := h2.1; have := h2.2; have := ZC1.out; have := ZSW.out; have := ZXA.out; have := ZXX.out; have := ZSG.out; omega))
 replace XA := zA ho
 replace B := zA hb
 clear ho hb hk
 clear XA
 clear XX
 obtain ⟨xb0, xb1, xb2⟩ := XB.out.cells
 go_wp2_with fail
 refine (laws_eqInt64S.calls 5000000 a4_ k4_ lr a2_ k2_ lr true _ (Kd.R_reads' SG.out).2.2 (Kd.R_reads' SG.out).2.1 (Kd.V_reads' SW.out).2.2 (Kd.V_reads' SW.out).2.1 HE.out).mono ?_
 rintro e w' ⟨rfl, ne8, rfl⟩
 clear xb0 xb1 xb2
 replace XB := zA (XB.out.drewN ne8)
 replace SW := zA (Kd.V_drewN SW.out ne8)
 replace SG := zA (Kd.R_drewN SG.out ne8)
 replace B := zA (pw_below_drewN B.out ne8)
 obtain ⟨xb0, xb1, xb2⟩ := XB.out.cells
 go_wp2_with fail
 refine (laws_markInt64S.calls 5000000 _ _ lr 1 (1 + (lr.length : Int)) (marks 1 lr.length) w _ B.out SG.out HM.out).mono ?_
 rintro e wt9 ⟨rfl, ho, hb, hk⟩
 clear xb0 xb1 xb2
 replace XB := zA (XB.out.kept hk (fun h => by have := h.1; have := h.2; have := ZG.out; have := ZC1.out; have := ZSW.out; have := ZXA.out; have := ZXX.out; have := ZSG.out; omega))
 replace SW := zA (Kd.V_kept SW.out hk (fun k h1 h2 => by have := h1.1; have := h1.2; have := h2.1; have := h2.2; have := ZC1.out; have := ZSW.out; have := ZXA.out; have := ZXX.out; have := ZSG.out; omega))
 replace SG := zA ho
 replace B := zA hb
 clear ho hb hk
 obtain ⟨xb0, xb1, xb2⟩ := XB.out.cells
 go_wp2_with fail
 refine (calls_of_args (by rw [LM.out]) (laws_heldInt64S.calls 5000000 a4_ k4_ (marks 1 lr.length) 1 (1 + (lr.length : Int)) _ (Kd.R_reads' SG.out).2.2 (by rw [LM.out]; exact (Kd.R_reads' SG.out).2.1) HH.out)).mono ?_
 rintro e w' ⟨rfl, ne10, rfl⟩
 clear xb0 xb1 xb2
 replace XB := zA (XB.out.drewN ne10)
 replace SW := zA (Kd.V_drewN SW.out ne10)
 replace SG := zA (Kd.R_drewN SG.out ne10)
 replace B := zA (pw_below_drewN B.out ne10)
 obtain ⟨xb0, xb1, xb2⟩ := XB.out.cells
 go_wp2_with fail
 refine (laws_toSeries.calls 5000000 d n A0 c0 la d n ls _ (Kd.C_below RA.out B.out) CA.out TA.out).mono ?_
 rintro e wt11 ⟨vt11, rfl, ho, hb⟩
 clear xb0 xb1 xb2
 have ZC11 := zA hb.size
 replace XB := zA (XB.out.below hb)
 replace SW := zA (Kd.V_below SW.out hb)
 replace SG := zA (Kd.R_below SG.out hb)
 replace B := zA (below_step B.out hb)
 obtain ⟨a11_, k11_, rfl, hkk, hcc⟩ := Kd.R_reads ho
 have C11 := zA hcc
 have K11 := zA hkk
 clear ho hb hkk hcc
 obtain ⟨xb0, xb1, xb2⟩ := XB.out.cells
 go_wp2_with fail
 refine (WordOfSignature_calls kI d n a11_ k11_ ls lr rc _ C11.out K11.out HI.out).mono ?_
 rintro e wt12 ⟨vt12, rfl, ho, hb⟩
 clear xb0 xb1 xb2
 have ZSH := zA hb.size
 have SH := zA (own3R ho B.out)
 replace XB := zA (XB.out.below hb)
 replace SW := zA (Kd.V_below SW.out hb)
 replace SG := zA (Kd.R_below SG.out hb)
 replace B := zA (below_step B.out hb)
 obtain ⟨a12_, k12_, rfl⟩ := Kd.R_slice ho
 clear ho hb
 clear C11 K11
 obtain ⟨xb0, xb1, xb2⟩ := XB.out.cells
 go_wp2_with fail
 have B0 := B
 refine (laws_eqInt64S.calls 5000000 a12_ k12_ lr a2_ k2_ lr true _ (Kd.R_reads' SH.out).2.2 (Kd.R_reads' SH.out).2.1 (Kd.V_reads' SW.out).2.2 (Kd.V_reads' SW.out).2.1 HE.out).mono ?_
 rintro e w' ⟨rfl, ne13, rfl⟩
 clear xb0 xb1 xb2
 replace XB := zA (XB.out.drewN ne13)
 replace SW := zA (Kd.V_drewN SW.out ne13)
 replace SG := zA (Kd.R_drewN SG.out ne13)
 replace SH := zA (Kd.R_drewN SH.out ne13)
 replace B := zA (pw_below_drewN B.out ne13)
 obtain ⟨xb0, xb1, xb2⟩ := XB.out.cells
 go_wp2_with fail
 refine (calls_of_args (by rw [LM.out]) (laws_heldInt64S.calls 5000000 a4_ k4_ (marks 1 lr.length) 1 (1 + (lr.length : Int)) _ (Kd.R_reads' SG.out).2.2 (by rw [LM.out]; exact (Kd.R_reads' SG.out).2.1) HH.out)).mono ?_
 rintro e w' ⟨rfl, ne14, rfl⟩
 clear xb0 xb1 xb2
 replace XB := zA (XB.out.drewN ne14)
 replace SW := zA (Kd.V_drewN SW.out ne14)
 replace SG := zA (Kd.R_drewN SG.out ne14)
 replace SH := zA (Kd.R_drewN SH.out ne14)
 replace B := zA (pw_below_drewN B.out ne14)
 go_wp2
 go_ret
 exact ⟨rfl, pw_below_drewN B0.out _⟩

set_option maxHeartbeats 4000000 in
theorem walk_big (d n : Int) (A0 : Option Addr) (c0 : Nat) (la : List S124) (t : Int) (w : World) (hr0 : Kd.C k124 w A0 la.length la) (hc0 : la.length ≤ c0) (hz : laws_szSeries.f 5000000 d n la 1048576 = some t) (ht : t < 0) :
 Calls Try.prog 8 #[.agg #[.int .i64 d, .int .i64 n, .slice A0 la.length c0]] w fun e w' => e = .returned (.bool true) ∧ Below w.heap.size w w' := by
 have hu24 := Try.underlying24
 have HZ := zA hz
 have RA := zA hr0
 have CA := zA hc0
 have b0 : decide (t < 0) = true := decide_eq_true ht
 clear hz hr0 hc0 ht
 go_enter Try.func8, Try.ntmps8
 go_wp2_with (first | ((with_reducible refine gate_dst (N := 1) rfl ?_); refine box_event ?hg (N := 1) ?hd (cs := #[.int .i64 d, .int .i64 n, .slice A0 la.length c0]) (t := 24) ?hr ?_; (case hd => rfl); (case hg => rfl); (case hr => first | (go_simp; done) | (go_simp; rfl)); intro gb hg w0 hbox hb; have B := zA hb; have XB := zA (show Box 24 w0 gb d n (.slice A0 la.length c0) from hbox); obtain ⟨xb0, xb1, xb2⟩ := XB.out.cells; clear hb hbox hg))
 refine (laws_szSeries.calls 5000000 d n A0 c0 la 1048576 t _ (Kd.C_below RA.out B.out) CA.out HZ.out).mono ?_
 rintro e w1 ⟨rfl, hb⟩
 go_wp2
 go_ret
 exact ⟨rfl, below_step B.out hb⟩
end Go.Proofs.Ytcklefgkbddlhaa.Nest
