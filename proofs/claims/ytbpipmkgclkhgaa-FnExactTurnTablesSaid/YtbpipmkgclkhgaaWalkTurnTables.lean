/- laws.FnExactTurnTables, at any arguments: it returns true, and what was there before lies as it lay. -/
import Derived.Test.YtbpipmkgclkhgaaPx1
import Derived.Test.YtbpipmkgclkhgaaPx2
import Derived.Test.YtbpipmkgclkhgaaTurnOf
import Derived.Test.YtbpipmkgclkhgaaBaseRows
import Derived.Test.YtbpipmkgclkhgaaNest3
import Derived.Test.YtbpipmkgclkhgaaBaseRows3
namespace Go.Proofs.Ytbpipmkgclkhgaa.Nest
open Go.RowKit Go.Proofs.Ytbpipmkgclkhgaa.P Go.Proofs.Ytbpipmkgclkhgaa.Pure Go.Proofs.YtbpipmkgclkhgaaW.PrintWords Go.Proofs.YtbpipmkgclkhgaaW.PrintLast Go.Proofs.YtbpipmkgclkhgaaW.PrintMore
set_option linter.unusedVariables false
set_option linter.unusedSimpArgs false

theorem own3 {α : Type} {d : Kd α} {e : Nat} {ok : Nat → Prop} {w w1 w2 : World} {v : Value} {l : List α} (h : Kd.S d e w2 w1.heap.size ok v l) (hb : Below w.heap.size w w1) : Kd.S d e w2 w.heap.size (fun k => w1.heap.size ≤ k ∧ k < w2.heap.size) v l :=
  Kd.S_lower (Kd.S_mono (Kd.S_bound h) (fun k hk => ⟨hk.2.1, hk.2.2.1⟩)) hb.size
theorem own3R {α : Type} {d : Kd α} {e : Nat} {ok : Nat → Prop} {w w1 w2 : World} {v : Value} {l : List α} (h : d.R e w2 w1.heap.size ok v l) (hb : Below w.heap.size w w1) : d.R e w2 w.heap.size (fun k => w1.heap.size ≤ k ∧ k < w2.heap.size) v l :=
  Kd.R_lower (Kd.R_mono (Kd.R_bound h) (fun k hk => ⟨hk.2.1, hk.2.2.1⟩)) hb.size
theorem own3N {α : Type} {d : Kd α} {e : Nat} {w w1 w2 : World} {v : Value} {l : List α} (h : Kd.N d e w2 w1.heap.size (fun k => w1.heap.size ≤ k) v l) (hb : Below w.heap.size w w1) : Kd.N d e w2 w.heap.size (fun k => w1.heap.size ≤ k ∧ k < w2.heap.size) v l :=
  Kd.N_lower (Kd.N_bound h) hb.size

set_option maxHeartbeats 16000000 in
set_option maxRecDepth 100000 in
theorem walk_main  (r : List (List (List Int))) (w : World) (hn : r.length ≤ 1000 ∧ total3 r ≤ 10000 ∧ ∀ x ∈ r, x.length ≤ 1000) (hS : spec_TurnTables.f   = some r) (hI : impl_TurnTables_f 5000000  = some r) :
    Calls Try.prog 3 #[] w fun e w' => e = .returned (.bool true) ∧ Below w.heap.size w w' := by
  have HS := Aside0.mk hS
  have HI := Aside0.mk hI
  have HE := Aside0.mk (eqInt64SSS_f3 5000000 r (by omega) (by omega) (fun x h => hn.2.2 x h) (by omega))
  have HH := Aside0.mk (heldInt64SSS_f3 5000000 r 1 (by omega) (by omega) (fun x h => hn.2.2 x h) (by omega) (by omega) (by omega))
  have q2 : decide ((1 : Int) + (total3 r : Int) < 0) = false := decide_eq_false (by omega)
  have N1 : Aside0 (r.length ≤ 1000) := ⟨hn.1⟩
  have N2 : Aside0 (total3 r ≤ 10000) := ⟨hn.2.1⟩
  have N3 : Aside0 (∀ x ∈ r, x.length ≤ 1000) := ⟨hn.2.2⟩
  have LM : Aside0 ((marks3 1 r).length = r.length) := ⟨marks3_length r 1⟩
  clear hS hI hn
  have B := Aside0.mk (Below.refl w.heap.size w)
  go_enter Try.func3, Try.ntmps3
  go_wp2_with fail
  refine (spec_TurnTables.calls   r _ HS.out).mono ?_
  rintro e w1 ⟨v1, rfl, ho1, hb1⟩
  have S2 := Aside0.mk (own3N ho1 B.out)
  have ZS2 := Aside0.mk hb1.size
  replace B := Aside0.mk (below_step B.out hb1)
  obtain ⟨a1_, k1_, rfl, hk1, hc1⟩ := Kd.N_reads ho1
  clear ho1 hb1 hk1 hc1
  go_wp2_with fail
  refine (impl_TurnTables_calls 5000000  r _ HI.out).mono ?_
  rintro e w2 ⟨v2, rfl, ho2, hb2⟩
  replace S2 := Aside0.mk (Kd.N_below S2.out hb2)
  have S4 := Aside0.mk (own3 ho2 B.out)
  have ZS4 := Aside0.mk hb2.size
  replace B := Aside0.mk (below_step B.out hb2)
  obtain ⟨a2_, k2_, rfl, hk2, hc2⟩ := Kd.S_reads ho2
  clear ho2 hb2 hk2 hc2
  go_wp2_with fail
  refine (laws_eqInt64SSS.calls 5000000 a2_ k2_ r a1_ k1_ r true _ (deep_C (Kd.S_reads' S4.out).2.2) (Kd.S_reads' S4.out).2.1 (Kd.N_reads' S2.out).2.2 (Kd.N_reads' S2.out).2.1 HE.out).mono ?_
  rintro e w' ⟨rfl, n3, rfl⟩
  replace S2 := Aside0.mk (Kd.N_drewN S2.out n3)
  replace S4 := Aside0.mk (Kd.S_drewN S4.out n3)
  replace B := Aside0.mk (pw_below_drewN B.out n3)
  go_wp2_with fail
  refine (markInt64SSS_calls _ _ r 1 w _ B.out S4.out (by omega) (by omega) (Nat.le_trans N1.out (by omega)) (Nat.le_trans N2.out (by omega)) (fun x h => Nat.le_trans (N3.out x h) (by omega))).mono ?_
  rintro e w4 ⟨rfl, ho4, hb4, hk4⟩
  replace S2 := Aside0.mk (Kd.N_kept S2.out hk4 (fun k h1 h2 => by have := h1.2; have := h2.1; have := ZS4.out; omega))
  replace S4 := Aside0.mk ho4
  replace B := Aside0.mk hb4
  clear hb4 hk4 ho4
  go_wp2_with fail
  refine (calls_of_args (by rw [LM.out]) (laws_heldInt64SSS.calls 5000000 a2_ k2_ (marks3 1 r) 1 (1 + total3 r) _ (deep_C (Kd.S_reads' S4.out).2.2) (by rw [LM.out]; exact (Kd.S_reads' S4.out).2.1) HH.out)).mono ?_
  rintro e w' ⟨rfl, n5, rfl⟩
  replace S2 := Aside0.mk (Kd.N_drewN S2.out n5)
  replace S4 := Aside0.mk (Kd.S_drewN S4.out n5)
  replace B := Aside0.mk (pw_below_drewN B.out n5)
  go_wp2_with fail
  refine (impl_TurnTables_calls 5000000  r _ HI.out).mono ?_
  rintro e w6 ⟨v6, rfl, ho6, hb6⟩
  replace S2 := Aside0.mk (Kd.N_below S2.out hb6)
  replace S4 := Aside0.mk (Kd.S_below S4.out hb6)
  have S9 := Aside0.mk (own3 ho6 B.out)
  have ZS9 := Aside0.mk hb6.size
  replace B := Aside0.mk (below_step B.out hb6)
  obtain ⟨a6_, k6_, rfl, hk6, hc6⟩ := Kd.S_reads ho6
  clear ho6 hb6 hk6 hc6
  have BK := Aside0.mk B.out
  go_wp2_with fail
  refine (laws_eqInt64SSS.calls 5000000 a6_ k6_ r a1_ k1_ r true _ (deep_C (Kd.S_reads' S9.out).2.2) (Kd.S_reads' S9.out).2.1 (Kd.N_reads' S2.out).2.2 (Kd.N_reads' S2.out).2.1 HE.out).mono ?_
  rintro e w' ⟨rfl, n7, rfl⟩
  replace S2 := Aside0.mk (Kd.N_drewN S2.out n7)
  replace S4 := Aside0.mk (Kd.S_drewN S4.out n7)
  replace S9 := Aside0.mk (Kd.S_drewN S9.out n7)
  replace B := Aside0.mk (pw_below_drewN B.out n7)
  go_wp2_with fail
  refine (calls_of_args (by rw [LM.out]) (laws_heldInt64SSS.calls 5000000 a2_ k2_ (marks3 1 r) 1 (1 + total3 r) _ (deep_C (Kd.S_reads' S4.out).2.2) (by rw [LM.out]; exact (Kd.S_reads' S4.out).2.1) HH.out)).mono ?_
  rintro e w' ⟨rfl, n8, rfl⟩
  replace S2 := Aside0.mk (Kd.N_drewN S2.out n8)
  replace S4 := Aside0.mk (Kd.S_drewN S4.out n8)
  replace S9 := Aside0.mk (Kd.S_drewN S9.out n8)
  replace B := Aside0.mk (pw_below_drewN B.out n8)
  go_wp2
  go_ret
  exact ⟨rfl, pw_below_drewN BK.out _⟩

end Go.Proofs.Ytbpipmkgclkhgaa.Nest
