/- laws.FnExactMultiplyTables, at any arguments: it returns true, and what was there before lies as it lay. -/
import Derived.Test.YtfbkjlgibpmpoaaPx10
import Derived.Test.YtfbkjlgibpmpoaaPx11
import Derived.Test.YtfbkjlgibpmpoaaPx1
import Derived.Test.YtfbkjlgibpmpoaaPx5
import Derived.Test.YtfbkjlgibpmpoaaPx4
import Derived.Test.YtfbkjlgibpmpoaaPx8
import Derived.Test.YtfbkjlgibpmpoaaNestF
namespace Go.Proofs.Ytfbkjlgibpmpoaa.Nest
open Go.RowKit Go.Proofs.Ytfbkjlgibpmpoaa.P Go.Proofs.Ytfbkjlgibpmpoaa.Pure Go.Proofs.YtfbkjlgibpmpoaaW.PrintWords Go.Proofs.YtfbkjlgibpmpoaaW.PrintLast Go.Proofs.YtfbkjlgibpmpoaaW.PrintMore
set_option linter.unusedVariables false
set_option linter.unusedSimpArgs false

theorem own3 {α : Type} {d : Kd α} {e : Nat} {ok : Nat → Prop} {w w1 w2 : World} {v : Value} {l : List α} (h : Kd.S d e w2 w1.heap.size ok v l) (hb : Below w.heap.size w w1) : Kd.S d e w2 w.heap.size (fun k => w1.heap.size ≤ k ∧ k < w2.heap.size) v l :=
  Kd.S_lower (Kd.S_mono (Kd.S_bound h) (fun k hk => ⟨hk.2.1, hk.2.2.1⟩)) hb.size
theorem calls_of_args {P : Program} {f : FuncId} {args args' : Array Value} {w : World} {Q : Ending → World → Prop} (h : args = args') (hc : Calls P f args' w Q) : Calls P f args w Q := h ▸ hc

set_option maxHeartbeats 16000000 in
set_option maxRecDepth 100000 in
theorem walk_main (A0 : Option Addr) (c0 : Nat) (la : List (List S129)) (A1 : Option Addr) (c1 : Nat) (lb : List (List S129)) (ra rb r : List (List S79)) (t u c : Int) (kS kI : Nat) (w : World) (hr0 : Kd.C (Kd.slice 129 k129) w A0 la.length la) (hc0 : la.length ≤ c0) (hr1 : Kd.C (Kd.slice 129 k129) w A1 lb.length lb) (hc1 : lb.length ≤ c1) (hz : laws_szFractionSS.f 5000000 la 1048576 = some t) (ht : ¬ t < 0) (hz2 : laws_szFractionSS.f 5000000 lb t = some u) (hu : ¬ u < 0) (hta : laws_toFractionSS.f 5000000 la = some ra) (htb : laws_toFractionSS.f 5000000 lb = some rb) (hla : ra.length ≤ 1048576 ∧ totF ra ≤ 1048576) (hlb : rb.length ≤ 1048576 ∧ totF rb ≤ 1048576) (hn : r.length ≤ 1000 ∧ totF r ≤ 10000) (hS : spec_MultiplyTables.f kS ra rb = some (r, c)) (hI : impl_MultiplyTables.f kI ra rb = some (r, c)) :
    Calls Try.prog 5 #[.slice A0 la.length c0, .slice A1 lb.length c1] w fun e w' => e = .returned (.bool true) ∧ Below w.heap.size w w' := by
  have HS := Aside0.mk hS
  have HI := Aside0.mk hI
  have TA := Aside0.mk hta
  have TB := Aside0.mk htb
  have EA := Aside0.mk (eqFractionSS_f 5000000 ra (by omega) (by omega) (by omega))
  have EB := Aside0.mk (eqFractionSS_f 5000000 rb (by omega) (by omega) (by omega))
  have HE := Aside0.mk (eqFractionSS_f 5000000 r (by omega) (by omega) (by omega))
  have HH := Aside0.mk (heldFractionSS_f 5000000 r 1 (by omega) (by omega) (by omega) (by omega) (by omega))
  have HZ := Aside0.mk hz
  have HZ2 := Aside0.mk hz2
  have RA := Aside0.mk hr0
  have CA := Aside0.mk hc0
  have RB := Aside0.mk hr1
  have CB := Aside0.mk hc1
  have NA : Aside0 (ra.length ≤ 4000000 ∧ totF ra ≤ 4000000) := ⟨by omega⟩
  have NB : Aside0 (rb.length ≤ 4000000 ∧ totF rb ≤ 4000000) := ⟨by omega⟩
  have NR : Aside0 (r.length ≤ 4000000 ∧ totF r ≤ 4000000) := ⟨by omega⟩
  have KA : Aside0 (0 ≤ (1 : Int) + 2 * (totF ra : Int) ∧ (1 : Int) + 2 * (totF ra : Int) ≤ 4000000) := ⟨by omega⟩
  have b0 : decide (t < 0) = false := decide_eq_false ht
  have b1 : decide (u < 0) = false := decide_eq_false hu
  have q1 : decide ((1 : Int) + 2 * (totF ra : Int) + 2 * (totF rb : Int) < 0) = false := decide_eq_false (by omega)
  have q2 : decide ((1 : Int) + 2 * (totF r : Int) < 0) = false := decide_eq_false (by omega)
  have LM : Aside0 ((fmarks2 1 r).length = r.length) := ⟨fmarks2_length r 1⟩
  clear hS hI hta htb hz hz2 hr0 hc0 hr1 hc1 hla hlb hn ht hu
  have B := Aside0.mk (Below.refl w.heap.size w)
  go_enter Try.func5, Try.ntmps5
  go_wp2_with fail
  refine (laws_szFractionSS.calls 5000000 A0 c0 la 1048576 t _ RA.out CA.out HZ.out).mono ?_
  rintro e w' ⟨rfl, n1, rfl⟩
  replace B := Aside0.mk (pw_below_drewN B.out n1)
  go_wp2_with fail
  refine (laws_szFractionSS.calls 5000000 A1 c1 lb t u _ (Kd.C_below RB.out B.out) CB.out HZ2.out).mono ?_
  rintro e w' ⟨rfl, n2, rfl⟩
  replace B := Aside0.mk (pw_below_drewN (Below.refl w.heap.size w) (n1 + n2))
  go_wp2_with fail
  refine (laws_toFractionSS.calls 5000000 A0 c0 la ra _ (Kd.C_below RA.out B.out) CA.out TA.out).mono ?_
  rintro e wt1 ⟨vt1, rfl, ho, hb⟩
  have ZSA1 := Aside0.mk hb.size
  have SA1 := Aside0.mk (own3 ho B.out)
  replace B := Aside0.mk (below_step B.out hb)
  obtain ⟨a1_, k1_, rfl, -, -⟩ := Kd.S_reads ho
  clear ho hb
  go_wp2_with fail
  refine (laws_toFractionSS.calls 5000000 A1 c1 lb rb _ (Kd.C_below RB.out B.out) CB.out TB.out).mono ?_
  rintro e wt2 ⟨vt2, rfl, ho, hb⟩
  have ZSB1 := Aside0.mk hb.size
  have SB1 := Aside0.mk (own3 ho B.out)
  replace SA1 := Aside0.mk (Kd.S_below SA1.out hb)
  replace B := Aside0.mk (below_step B.out hb)
  obtain ⟨a2_, k2_, rfl, -, -⟩ := Kd.S_reads ho
  clear ho hb
  go_wp2_with fail
  refine (spec_MultiplyTables.calls kS a1_ k1_ ra a2_ k2_ rb r c _ (Kd.S_reads' SA1.out).2.2 (Kd.S_reads' SA1.out).2.1 (Kd.S_reads' SB1.out).2.2 (Kd.S_reads' SB1.out).2.1 HS.out).mono ?_
  rintro e wt3 ⟨vt3, rfl, ho, hb⟩
  have ZSW := Aside0.mk hb.size
  have SW := Aside0.mk (own3 ho B.out)
  replace SA1 := Aside0.mk (Kd.S_below SA1.out hb)
  replace SB1 := Aside0.mk (Kd.S_below SB1.out hb)
  replace B := Aside0.mk (below_step B.out hb)
  obtain ⟨a3_, k3_, rfl, -, -⟩ := Kd.S_reads ho
  clear ho hb
  clear SA1
  clear SB1
  go_wp2_with fail
  refine (laws_toFractionSS.calls 5000000 A0 c0 la ra _ (Kd.C_below RA.out B.out) CA.out TA.out).mono ?_
  rintro e wt4 ⟨vt4, rfl, ho, hb⟩
  have ZXA := Aside0.mk hb.size
  have XA := Aside0.mk (own3 ho B.out)
  replace SW := Aside0.mk (Kd.S_below SW.out hb)
  replace B := Aside0.mk (below_step B.out hb)
  obtain ⟨a4_, k4_, rfl, -, -⟩ := Kd.S_reads ho
  clear ho hb
  go_wp2_with fail
  refine (laws_toFractionSS.calls 5000000 A1 c1 lb rb _ (Kd.C_below RB.out B.out) CB.out TB.out).mono ?_
  rintro e wt5 ⟨vt5, rfl, ho, hb⟩
  have ZXB := Aside0.mk hb.size
  have XB := Aside0.mk (own3 ho B.out)
  replace SW := Aside0.mk (Kd.S_below SW.out hb)
  replace XA := Aside0.mk (Kd.S_below XA.out hb)
  replace B := Aside0.mk (below_step B.out hb)
  obtain ⟨a5_, k5_, rfl, -, -⟩ := Kd.S_reads ho
  clear ho hb
  go_wp2_with fail
  refine (impl_MultiplyTables.calls kI a4_ k4_ ra a5_ k5_ rb r c _ (Kd.S_reads' XA.out).2.2 (Kd.S_reads' XA.out).2.1 (Kd.S_reads' XB.out).2.2 (Kd.S_reads' XB.out).2.1 HI.out).mono ?_
  rintro e wt6 ⟨vt6, rfl, ho, hb⟩
  have ZSG := Aside0.mk hb.size
  have SG := Aside0.mk (own3 ho B.out)
  replace SW := Aside0.mk (Kd.S_below SW.out hb)
  replace XA := Aside0.mk (Kd.S_below XA.out hb)
  replace XB := Aside0.mk (Kd.S_below XB.out hb)
  replace B := Aside0.mk (below_step B.out hb)
  obtain ⟨a6_, k6_, rfl, -, -⟩ := Kd.S_reads ho
  clear ho hb
  go_wp2_with fail
  refine (laws_eqFractionSS.calls 5000000 a6_ k6_ r a3_ k3_ r true _ (Kd.S_reads' SG.out).2.2 (Kd.S_reads' SG.out).2.1 (Kd.S_reads' SW.out).2.2 (Kd.S_reads' SW.out).2.1 HE.out).mono ?_
  rintro e wt7 ⟨rfl, hb⟩
  replace SW := Aside0.mk (Kd.S_below SW.out hb)
  replace XA := Aside0.mk (Kd.S_below XA.out hb)
  replace XB := Aside0.mk (Kd.S_below XB.out hb)
  replace SG := Aside0.mk (Kd.S_below SG.out hb)
  replace B := Aside0.mk (below_step B.out hb)
  clear hb
  go_wp2_with fail
  refine (laws_toFractionSS.calls 5000000 A0 c0 la ra _ (Kd.C_below RA.out B.out) CA.out TA.out).mono ?_
  rintro e wt8 ⟨vt8, rfl, ho, hb⟩
  have ZYA := Aside0.mk hb.size
  have YA := Aside0.mk (own3 ho B.out)
  replace SW := Aside0.mk (Kd.S_below SW.out hb)
  replace XA := Aside0.mk (Kd.S_below XA.out hb)
  replace XB := Aside0.mk (Kd.S_below XB.out hb)
  replace SG := Aside0.mk (Kd.S_below SG.out hb)
  replace B := Aside0.mk (below_step B.out hb)
  obtain ⟨a8_, k8_, rfl, -, -⟩ := Kd.S_reads ho
  clear ho hb
  go_wp2_with fail
  refine (laws_eqFractionSS.calls 5000000 a4_ k4_ ra a8_ k8_ ra true _ (Kd.S_reads' XA.out).2.2 (Kd.S_reads' XA.out).2.1 (Kd.S_reads' YA.out).2.2 (Kd.S_reads' YA.out).2.1 EA.out).mono ?_
  rintro e wt9 ⟨rfl, hb⟩
  replace SW := Aside0.mk (Kd.S_below SW.out hb)
  replace XA := Aside0.mk (Kd.S_below XA.out hb)
  replace XB := Aside0.mk (Kd.S_below XB.out hb)
  replace SG := Aside0.mk (Kd.S_below SG.out hb)
  replace YA := Aside0.mk (Kd.S_below YA.out hb)
  replace B := Aside0.mk (below_step B.out hb)
  clear hb
  clear YA
  go_wp2_with fail
  refine (laws_toFractionSS.calls 5000000 A1 c1 lb rb _ (Kd.C_below RB.out B.out) CB.out TB.out).mono ?_
  rintro e wt10 ⟨vt10, rfl, ho, hb⟩
  have ZYB := Aside0.mk hb.size
  have YB := Aside0.mk (own3 ho B.out)
  replace SW := Aside0.mk (Kd.S_below SW.out hb)
  replace XA := Aside0.mk (Kd.S_below XA.out hb)
  replace XB := Aside0.mk (Kd.S_below XB.out hb)
  replace SG := Aside0.mk (Kd.S_below SG.out hb)
  replace B := Aside0.mk (below_step B.out hb)
  obtain ⟨a10_, k10_, rfl, -, -⟩ := Kd.S_reads ho
  clear ho hb
  go_wp2_with fail
  refine (laws_eqFractionSS.calls 5000000 a5_ k5_ rb a10_ k10_ rb true _ (Kd.S_reads' XB.out).2.2 (Kd.S_reads' XB.out).2.1 (Kd.S_reads' YB.out).2.2 (Kd.S_reads' YB.out).2.1 EB.out).mono ?_
  rintro e wt11 ⟨rfl, hb⟩
  replace SW := Aside0.mk (Kd.S_below SW.out hb)
  replace XA := Aside0.mk (Kd.S_below XA.out hb)
  replace XB := Aside0.mk (Kd.S_below XB.out hb)
  replace SG := Aside0.mk (Kd.S_below SG.out hb)
  replace YB := Aside0.mk (Kd.S_below YB.out hb)
  replace B := Aside0.mk (below_step B.out hb)
  clear hb
  clear YB
  go_wp2_with fail
  refine (markFractionSS_calls _ _ ra (1) w _ B.out XA.out (by omega) (by omega) NA.out.1 NA.out.2).mono ?_
  rintro e wt12 ⟨rfl, ho, hb, hk⟩
  replace SW := Aside0.mk (Kd.S_kept SW.out hk (fun k h1 h2 => by have := h1.1; have := h1.2; have := h2.1; have := h2.2; have := ZSW.out; have := ZXA.out; have := ZXB.out; have := ZSG.out; omega))
  replace XB := Aside0.mk (Kd.S_kept XB.out hk (fun k h1 h2 => by have := h1.1; have := h1.2; have := h2.1; have := h2.2; have := ZSW.out; have := ZXA.out; have := ZXB.out; have := ZSG.out; omega))
  replace SG := Aside0.mk (Kd.S_kept SG.out hk (fun k h1 h2 => by have := h1.1; have := h1.2; have := h2.1; have := h2.2; have := ZSW.out; have := ZXA.out; have := ZXB.out; have := ZSG.out; omega))
  replace XA := Aside0.mk ho
  replace B := Aside0.mk hb
  clear ho hb hk
  go_wp2_with fail
  refine (markFractionSS_calls _ _ rb (1 + 2 * (totF ra : Int)) w _ B.out XB.out KA.out.1 KA.out.2 NB.out.1 NB.out.2).mono ?_
  rintro e wt13 ⟨rfl, ho, hb, hk⟩
  replace SW := Aside0.mk (Kd.S_kept SW.out hk (fun k h1 h2 => by have := h1.1; have := h1.2; have := h2.1; have := h2.2; have := ZSW.out; have := ZXA.out; have := ZXB.out; have := ZSG.out; omega))
  replace XA := Aside0.mk (Kd.S_kept XA.out hk (fun k h1 h2 => by have := h1.1; have := h1.2; have := h2.1; have := h2.2; have := ZSW.out; have := ZXA.out; have := ZXB.out; have := ZSG.out; omega))
  replace SG := Aside0.mk (Kd.S_kept SG.out hk (fun k h1 h2 => by have := h1.1; have := h1.2; have := h2.1; have := h2.2; have := ZSW.out; have := ZXA.out; have := ZXB.out; have := ZSG.out; omega))
  replace XB := Aside0.mk ho
  replace B := Aside0.mk hb
  clear ho hb hk
  clear XA
  clear XB
  go_wp2_with fail
  refine (laws_eqFractionSS.calls 5000000 a6_ k6_ r a3_ k3_ r true _ (Kd.S_reads' SG.out).2.2 (Kd.S_reads' SG.out).2.1 (Kd.S_reads' SW.out).2.2 (Kd.S_reads' SW.out).2.1 HE.out).mono ?_
  rintro e wt14 ⟨rfl, hb⟩
  replace SW := Aside0.mk (Kd.S_below SW.out hb)
  replace SG := Aside0.mk (Kd.S_below SG.out hb)
  replace B := Aside0.mk (below_step B.out hb)
  clear hb
  go_wp2_with fail
  refine (markFractionSS_calls _ _ r (1) w _ B.out SG.out (by omega) (by omega) NR.out.1 NR.out.2).mono ?_
  rintro e wt15 ⟨rfl, ho, hb, hk⟩
  replace SW := Aside0.mk (Kd.S_kept SW.out hk (fun k h1 h2 => by have := h1.1; have := h1.2; have := h2.1; have := h2.2; have := ZSW.out; have := ZXA.out; have := ZXB.out; have := ZSG.out; omega))
  replace SG := Aside0.mk ho
  replace B := Aside0.mk hb
  clear ho hb hk
  go_wp2_with fail
  refine (calls_of_args (by rw [LM.out]) (laws_heldFractionSS.calls 5000000 a6_ k6_ (fmarks2 1 r) 1 (1 + 2 * totF r) _ (Kd.S_reads' SG.out).2.2 (by rw [LM.out]; exact (Kd.S_reads' SG.out).2.1) HH.out)).mono ?_
  rintro e w' ⟨rfl, nh16, rfl⟩
  replace SW := Aside0.mk (Kd.S_drewN SW.out nh16)
  replace SG := Aside0.mk (Kd.S_drewN SG.out nh16)
  replace B := Aside0.mk (pw_below_drewN B.out nh16)
  go_wp2_with fail
  refine (laws_toFractionSS.calls 5000000 A0 c0 la ra _ (Kd.C_below RA.out B.out) CA.out TA.out).mono ?_
  rintro e wt17 ⟨vt17, rfl, ho, hb⟩
  have ZTA1 := Aside0.mk hb.size
  have TA1 := Aside0.mk (own3 ho B.out)
  replace SW := Aside0.mk (Kd.S_below SW.out hb)
  replace SG := Aside0.mk (Kd.S_below SG.out hb)
  replace B := Aside0.mk (below_step B.out hb)
  obtain ⟨a17_, k17_, rfl, -, -⟩ := Kd.S_reads ho
  clear ho hb
  go_wp2_with fail
  refine (laws_toFractionSS.calls 5000000 A1 c1 lb rb _ (Kd.C_below RB.out B.out) CB.out TB.out).mono ?_
  rintro e wt18 ⟨vt18, rfl, ho, hb⟩
  have ZTB1 := Aside0.mk hb.size
  have TB1 := Aside0.mk (own3 ho B.out)
  replace SW := Aside0.mk (Kd.S_below SW.out hb)
  replace SG := Aside0.mk (Kd.S_below SG.out hb)
  replace TA1 := Aside0.mk (Kd.S_below TA1.out hb)
  replace B := Aside0.mk (below_step B.out hb)
  obtain ⟨a18_, k18_, rfl, -, -⟩ := Kd.S_reads ho
  clear ho hb
  go_wp2_with fail
  refine (impl_MultiplyTables.calls kI a17_ k17_ ra a18_ k18_ rb r c _ (Kd.S_reads' TA1.out).2.2 (Kd.S_reads' TA1.out).2.1 (Kd.S_reads' TB1.out).2.2 (Kd.S_reads' TB1.out).2.1 HI.out).mono ?_
  rintro e wt19 ⟨vt19, rfl, ho, hb⟩
  have ZSH := Aside0.mk hb.size
  have SH := Aside0.mk (own3 ho B.out)
  replace SW := Aside0.mk (Kd.S_below SW.out hb)
  replace SG := Aside0.mk (Kd.S_below SG.out hb)
  replace TA1 := Aside0.mk (Kd.S_below TA1.out hb)
  replace TB1 := Aside0.mk (Kd.S_below TB1.out hb)
  replace B := Aside0.mk (below_step B.out hb)
  obtain ⟨a19_, k19_, rfl, -, -⟩ := Kd.S_reads ho
  clear ho hb
  clear TA1
  clear TB1
  go_wp2_with fail
  refine (laws_eqFractionSS.calls 5000000 a19_ k19_ r a3_ k3_ r true _ (Kd.S_reads' SH.out).2.2 (Kd.S_reads' SH.out).2.1 (Kd.S_reads' SW.out).2.2 (Kd.S_reads' SW.out).2.1 HE.out).mono ?_
  rintro e wt20 ⟨rfl, hb⟩
  replace SW := Aside0.mk (Kd.S_below SW.out hb)
  replace SG := Aside0.mk (Kd.S_below SG.out hb)
  replace SH := Aside0.mk (Kd.S_below SH.out hb)
  replace B := Aside0.mk (below_step B.out hb)
  clear hb
  go_wp2_with fail
  refine (calls_of_args (by rw [LM.out]) (laws_heldFractionSS.calls 5000000 a6_ k6_ (fmarks2 1 r) 1 (1 + 2 * totF r) _ (Kd.S_reads' SG.out).2.2 (by rw [LM.out]; exact (Kd.S_reads' SG.out).2.1) HH.out)).mono ?_
  rintro e w' ⟨rfl, nh21, rfl⟩
  replace SW := Aside0.mk (Kd.S_drewN SW.out nh21)
  replace SG := Aside0.mk (Kd.S_drewN SG.out nh21)
  replace SH := Aside0.mk (Kd.S_drewN SH.out nh21)
  replace B := Aside0.mk (pw_below_drewN B.out nh21)
  go_wp2
  go_ret
  exact ⟨rfl, B.out⟩

set_option maxHeartbeats 4000000 in
theorem walk_big (A0 : Option Addr) (c0 : Nat) (la : List (List S129)) (A1 : Option Addr) (c1 : Nat) (lb : List (List S129)) (t : Int) (w : World) (hr0 : Kd.C (Kd.slice 129 k129) w A0 la.length la) (hc0 : la.length ≤ c0) (hz : laws_szFractionSS.f 5000000 la 1048576 = some t) (ht : t < 0) :
    Calls Try.prog 5 #[.slice A0 la.length c0, .slice A1 lb.length c1] w fun e w' => e = .returned (.bool true) ∧ Below w.heap.size w w' := by
  have HZ := Aside0.mk hz
  have RA := Aside0.mk hr0
  have CA := Aside0.mk hc0
  have b0 : decide (t < 0) = true := decide_eq_true ht
  clear hz hr0 hc0 ht
  go_enter Try.func5, Try.ntmps5
  go_wp2_with fail
  refine (laws_szFractionSS.calls 5000000 A0 c0 la 1048576 t _ RA.out CA.out HZ.out).mono ?_
  rintro e w' ⟨rfl, n0, rfl⟩
  go_wp2
  go_ret
  exact ⟨rfl, pw_below_drewN (Below.refl _ _) _⟩
set_option maxHeartbeats 4000000 in
theorem walk_big2 (A0 : Option Addr) (c0 : Nat) (la : List (List S129)) (A1 : Option Addr) (c1 : Nat) (lb : List (List S129)) (t u : Int) (w : World) (hr0 : Kd.C (Kd.slice 129 k129) w A0 la.length la) (hc0 : la.length ≤ c0) (hr1 : Kd.C (Kd.slice 129 k129) w A1 lb.length lb) (hc1 : lb.length ≤ c1) (hz : laws_szFractionSS.f 5000000 la 1048576 = some t) (ht : ¬ t < 0) (hz2 : laws_szFractionSS.f 5000000 lb t = some u) (hu : u < 0) :
    Calls Try.prog 5 #[.slice A0 la.length c0, .slice A1 lb.length c1] w fun e w' => e = .returned (.bool true) ∧ Below w.heap.size w w' := by
  have HZ := Aside0.mk hz
  have HZ2 := Aside0.mk hz2
  have RA := Aside0.mk hr0
  have CA := Aside0.mk hc0
  have RB := Aside0.mk hr1
  have CB := Aside0.mk hc1
  have b0 : decide (t < 0) = false := decide_eq_false ht
  have b1 : decide (u < 0) = true := decide_eq_true hu
  clear hz hz2 hr0 hc0 hr1 hc1 ht hu
  have B := Aside0.mk (Below.refl w.heap.size w)
  go_enter Try.func5, Try.ntmps5
  go_wp2_with fail
  refine (laws_szFractionSS.calls 5000000 A0 c0 la 1048576 t _ RA.out CA.out HZ.out).mono ?_
  rintro e w' ⟨rfl, n1, rfl⟩
  replace B := Aside0.mk (pw_below_drewN B.out n1)
  go_wp2_with fail
  refine (laws_szFractionSS.calls 5000000 A1 c1 lb t u _ (Kd.C_below RB.out B.out) CB.out HZ2.out).mono ?_
  rintro e w' ⟨rfl, n2, rfl⟩
  replace B := Aside0.mk (pw_below_drewN (Below.refl w.heap.size w) (n1 + n2))
  go_wp2
  go_ret
  exact ⟨rfl, B.out⟩
end Go.Proofs.Ytfbkjlgibpmpoaa.Nest
