/- laws.FnExactWithoutRests, at any arguments: it returns true, and what was there before lies as it lay. -/
import Derived.Test.YtbpipmkgclkhgaaPx1
import Derived.Test.YtbpipmkgclkhgaaPx3
import Derived.Test.YtbpipmkgclkhgaaPx4
import Derived.Test.YtbpipmkgclkhgaaPx2
import Derived.Test.YtbpipmkgclkhgaaBaseTables2
import Derived.Test.YtbpipmkgclkhgaaBaseRows
import Derived.Test.YtbpipmkgclkhgaaNest3
namespace Go.Proofs.Ytbpipmkgclkhgaa.Nest
open Go.RowKit Go.Proofs.Ytbpipmkgclkhgaa.P Go.Proofs.Ytbpipmkgclkhgaa.Pure Go.Proofs.YtbpipmkgclkhgaaW.PrintWords Go.Proofs.YtbpipmkgclkhgaaW.PrintLast Go.Proofs.YtbpipmkgclkhgaaW.PrintMore
set_option linter.unusedVariables false
set_option linter.unusedSimpArgs false

theorem own3 {α : Type} {d : Kd α} {e : Nat} {ok : Nat → Prop} {w w1 w2 : World} {v : Value} {l : List α} (h : Kd.S d e w2 w1.heap.size ok v l) (hb : Below w.heap.size w w1) : Kd.S d e w2 w.heap.size (fun k => w1.heap.size ≤ k ∧ k < w2.heap.size) v l :=
  Kd.S_lower (Kd.S_mono (Kd.S_bound h) (fun k hk => ⟨hk.2.1, hk.2.2.1⟩)) hb.size
theorem own3R {α : Type} {d : Kd α} {e : Nat} {ok : Nat → Prop} {w w1 w2 : World} {v : Value} {l : List α} (h : d.R e w2 w1.heap.size ok v l) (hb : Below w.heap.size w w1) : d.R e w2 w.heap.size (fun k => w1.heap.size ≤ k ∧ k < w2.heap.size) v l :=
  Kd.R_lower (Kd.R_mono (Kd.R_bound h) (fun k hk => ⟨hk.2.1, hk.2.2.1⟩)) hb.size
theorem own3N {α : Type} {d : Kd α} {e : Nat} {w w1 w2 : World} {v : Value} {l : List α} (h : Kd.N d e w2 w1.heap.size (fun k => w1.heap.size ≤ k) v l) (hb : Below w.heap.size w w1) : Kd.N d e w2 w.heap.size (fun k => w1.heap.size ≤ k ∧ k < w2.heap.size) v l :=
  Kd.N_lower (Kd.N_bound h) hb.size

set_option maxHeartbeats 16000000 in
set_option maxRecDepth 100000 in
theorem walk_main (a0 : Int) (A1 : Option Addr) (c1 : Nat) (l : List (List Int)) (t : Int) (r : List (List Int)) (c : Int) (w : World) (hr : Kd.C (Kd.slice 2 (Kd.int .i64)) w A1 l.length l) (hc : l.length ≤ c1) (hz : laws_szInt64SS.f 5000000 l 1048576 = some t) (ht : ¬ t < 0) (hl : l.length + size2 l ≤ 1048576) (h3 : total l ≤ 1048576) (hn : r.length ≤ 1000 ∧ total r ≤ 10000) (hS : spec_WithoutRests.f 5000000 a0 l = some (r, c)) (hI : impl_WithoutRests.f 5000000 a0 l = some (r, c)) :
    Calls Try.prog 11 #[.int .i64 a0, .slice A1 l.length c1] w fun e w' => e = .returned (.bool true) ∧ Below w.heap.size w w' := by
  have HS := Aside0.mk hS
  have HI := Aside0.mk hI
  have HT := Aside0.mk (toSS_f 5000000 l (by omega) (by omega) (by omega))
  have HL := Aside0.mk (eqSS_f 5000000 l (by omega) (by omega) (by omega))
  have HZ := Aside0.mk hz
  have HR := Aside0.mk hr
  have HC := Aside0.mk hc
  have M1 : Aside0 (l.length ≤ 2000000) := ⟨by omega⟩
  have M2 : Aside0 (total l ≤ 2000000) := ⟨by omega⟩
  have b0 : decide (t < 0) = false := decide_eq_false ht
  have HE := Aside0.mk (eqInt64SS_f 5000000 r (by omega) (by omega) (by omega))
  have HH := Aside0.mk (heldInt64SS_f 5000000 r 1 (by omega) (by omega) (by omega) (by omega) (by omega))
  have q1 : decide ((1 : Int) + (total l : Int) < 0) = false := decide_eq_false (by omega)
  have q2 : decide ((1 : Int) + (total r : Int) < 0) = false := decide_eq_false (by omega)
  have N1 : Aside0 (r.length ≤ 1000) := ⟨hn.1⟩
  have N2 : Aside0 (total r ≤ 10000) := ⟨hn.2⟩
  have LM : Aside0 ((marks2 1 r).length = r.length) := ⟨marks2_length r 1⟩
  clear hS hI hn hz ht hl h3 hr hc
  have B := Aside0.mk (Below.refl w.heap.size w)
  go_enter Try.func11, Try.ntmps11
  go_wp2_with fail
  refine (laws_szInt64SS.calls 5000000 A1 c1 l 1048576 t _ HR.out HC.out HZ.out).mono ?_
  rintro e w' ⟨rfl, n1, rfl⟩
  replace B := Aside0.mk (pw_below_drewN B.out n1)
  go_wp2_with fail
  refine (laws_toInt64SS.calls 5000000 A1 c1 l l _ (Kd.C_below HR.out B.out) HC.out HT.out).mono ?_
  rintro e w2 ⟨v2, rfl, ho2, hb2⟩
  replace B := Aside0.mk (below_step B.out hb2)
  obtain ⟨a2_, k2_, rfl, hk2, hc2⟩ := Kd.S_reads ho2
  have C2 := Aside0.mk hc2
  have K2 := Aside0.mk hk2
  clear ho2 hb2 hk2 hc2
  go_wp2_with fail
  refine (spec_WithoutRests.calls 5000000 a0 a2_ k2_ l r c _ C2.out K2.out HS.out).mono ?_
  rintro e w3 ⟨v3, rfl, ho3, hb3⟩
  have S2 := Aside0.mk (own3 ho3 B.out)
  have ZS2 := Aside0.mk hb3.size
  replace B := Aside0.mk (below_step B.out hb3)
  obtain ⟨a3_, k3_, rfl, hk3, hc3⟩ := Kd.S_reads ho3
  clear ho3 hb3 hk3 hc3
  go_wp2_with fail
  refine (laws_toInt64SS.calls 5000000 A1 c1 l l _ (Kd.C_below HR.out B.out) HC.out HT.out).mono ?_
  rintro e w4 ⟨v4, rfl, ho4, hb4⟩
  replace S2 := Aside0.mk (Kd.S_below S2.out hb4)
  have S3 := Aside0.mk (own3 ho4 B.out)
  have ZS3 := Aside0.mk hb4.size
  replace B := Aside0.mk (below_step B.out hb4)
  obtain ⟨a4_, k4_, rfl, hk4, hc4⟩ := Kd.S_reads ho4
  clear ho4 hb4 hk4 hc4
  go_wp2_with fail
  refine (impl_WithoutRests.callsS 5000000 a0 a4_ k4_ l r c _ (Kd.S_reads' S3.out).2.2 (Kd.S_reads' S3.out).2.1 HI.out).mono ?_
  rintro e w5 ⟨v5, rfl, ho5, hb5⟩
  replace S2 := Aside0.mk (Kd.S_below S2.out hb5)
  replace S3 := Aside0.mk (Kd.S_below S3.out hb5)
  have S4 := Aside0.mk (own3 ho5 B.out)
  have ZS4 := Aside0.mk hb5.size
  replace B := Aside0.mk (below_step B.out hb5)
  obtain ⟨a5_, k5_, rfl, hk5, hc5⟩ := Kd.S_reads ho5
  clear ho5 hb5 hk5 hc5
  go_wp2_with fail
  refine (laws_eqInt64SS.calls 5000000 a5_ k5_ r a3_ k3_ r true _ (Kd.S_reads' S4.out).2.2 (Kd.S_reads' S4.out).2.1 (Kd.S_reads' S2.out).2.2 (Kd.S_reads' S2.out).2.1 HE.out).mono ?_
  rintro e w' ⟨rfl, n6, rfl⟩
  replace S2 := Aside0.mk (Kd.S_drewN S2.out n6)
  replace S3 := Aside0.mk (Kd.S_drewN S3.out n6)
  replace S4 := Aside0.mk (Kd.S_drewN S4.out n6)
  replace B := Aside0.mk (pw_below_drewN B.out n6)
  go_wp2_with fail
  refine (laws_toInt64SS.calls 5000000 A1 c1 l l _ (Kd.C_below HR.out B.out) HC.out HT.out).mono ?_
  rintro e w7 ⟨v7, rfl, ho7, hb7⟩
  replace S2 := Aside0.mk (Kd.S_below S2.out hb7)
  replace S3 := Aside0.mk (Kd.S_below S3.out hb7)
  replace S4 := Aside0.mk (Kd.S_below S4.out hb7)
  replace B := Aside0.mk (below_step B.out hb7)
  obtain ⟨a7_, k7_, rfl, hk7, hc7⟩ := Kd.S_reads ho7
  have C7 := Aside0.mk hc7
  have K7 := Aside0.mk hk7
  clear ho7 hb7 hk7 hc7
  go_wp2_with fail
  refine (laws_eqInt64SS.calls 5000000 a4_ k4_ l a7_ k7_ l true _ (Kd.S_reads' S3.out).2.2 (Kd.S_reads' S3.out).2.1 C7.out K7.out HL.out).mono ?_
  rintro e w' ⟨rfl, n8, rfl⟩
  replace S2 := Aside0.mk (Kd.S_drewN S2.out n8)
  replace S3 := Aside0.mk (Kd.S_drewN S3.out n8)
  replace S4 := Aside0.mk (Kd.S_drewN S4.out n8)
  replace B := Aside0.mk (pw_below_drewN B.out n8)
  go_wp2_with fail
  refine (markInt64SS_calls _ _ l 1 w _ B.out S3.out (by omega) (by omega) (Nat.le_trans M1.out (by omega)) (Nat.le_trans M2.out (by omega))).mono ?_
  rintro e w9 ⟨rfl, ho9, hb9, hk9⟩
  replace S2 := Aside0.mk (Kd.S_kept S2.out hk9 (fun k h1 h2 => by have := h1.2; have := h2.1; have := ZS3.out; omega))
  replace S4 := Aside0.mk (Kd.S_kept S4.out hk9 (fun k h1 h2 => by have := h1.1; have := h2.2; have := ZS4.out; omega))
  replace B := Aside0.mk hb9
  clear hb9 hk9 ho9 S3
  go_wp2_with fail
  refine (laws_eqInt64SS.calls 5000000 a5_ k5_ r a3_ k3_ r true _ (Kd.S_reads' S4.out).2.2 (Kd.S_reads' S4.out).2.1 (Kd.S_reads' S2.out).2.2 (Kd.S_reads' S2.out).2.1 HE.out).mono ?_
  rintro e w' ⟨rfl, n10, rfl⟩
  replace S2 := Aside0.mk (Kd.S_drewN S2.out n10)
  replace S4 := Aside0.mk (Kd.S_drewN S4.out n10)
  replace B := Aside0.mk (pw_below_drewN B.out n10)
  go_wp2_with fail
  refine (markInt64SS_calls _ _ r 1 w _ B.out S4.out (by omega) (by omega) (Nat.le_trans N1.out (by omega)) (Nat.le_trans N2.out (by omega))).mono ?_
  rintro e w11 ⟨rfl, ho11, hb11, hk11⟩
  replace S2 := Aside0.mk (Kd.S_kept S2.out hk11 (fun k h1 h2 => by have := h1.2; have := h2.1; have := ZS4.out; have := ZS3.out; omega))
  replace S4 := Aside0.mk ho11
  replace B := Aside0.mk hb11
  clear hb11 hk11 ho11
  go_wp2_with fail
  refine (calls_of_args (by rw [LM.out]) (laws_heldInt64SS.calls 5000000 a5_ k5_ (marks2 1 r) 1 (1 + total r) _ (Kd.S_reads' S4.out).2.2 (by rw [LM.out]; exact (Kd.S_reads' S4.out).2.1) HH.out)).mono ?_
  rintro e w' ⟨rfl, n12, rfl⟩
  replace S2 := Aside0.mk (Kd.S_drewN S2.out n12)
  replace S4 := Aside0.mk (Kd.S_drewN S4.out n12)
  replace B := Aside0.mk (pw_below_drewN B.out n12)
  go_wp2_with fail
  refine (laws_toInt64SS.calls 5000000 A1 c1 l l _ (Kd.C_below HR.out B.out) HC.out HT.out).mono ?_
  rintro e w13 ⟨v13, rfl, ho13, hb13⟩
  replace S2 := Aside0.mk (Kd.S_below S2.out hb13)
  replace S4 := Aside0.mk (Kd.S_below S4.out hb13)
  replace B := Aside0.mk (below_step B.out hb13)
  obtain ⟨a13_, k13_, rfl, hk13, hc13⟩ := Kd.S_reads ho13
  have C13 := Aside0.mk hc13
  have K13 := Aside0.mk hk13
  clear ho13 hb13 hk13 hc13
  go_wp2_with fail
  refine (impl_WithoutRests.callsS 5000000 a0 a13_ k13_ l r c _ C13.out K13.out HI.out).mono ?_
  rintro e w14 ⟨v14, rfl, ho14, hb14⟩
  replace S2 := Aside0.mk (Kd.S_below S2.out hb14)
  replace S4 := Aside0.mk (Kd.S_below S4.out hb14)
  have S9 := Aside0.mk (own3 ho14 B.out)
  have ZS9 := Aside0.mk hb14.size
  replace B := Aside0.mk (below_step B.out hb14)
  obtain ⟨a14_, k14_, rfl, hk14, hc14⟩ := Kd.S_reads ho14
  clear ho14 hb14 hk14 hc14
  have BK := Aside0.mk B.out
  go_wp2_with fail
  refine (laws_eqInt64SS.calls 5000000 a14_ k14_ r a3_ k3_ r true _ (Kd.S_reads' S9.out).2.2 (Kd.S_reads' S9.out).2.1 (Kd.S_reads' S2.out).2.2 (Kd.S_reads' S2.out).2.1 HE.out).mono ?_
  rintro e w' ⟨rfl, n15, rfl⟩
  replace S2 := Aside0.mk (Kd.S_drewN S2.out n15)
  replace S4 := Aside0.mk (Kd.S_drewN S4.out n15)
  replace S9 := Aside0.mk (Kd.S_drewN S9.out n15)
  replace B := Aside0.mk (pw_below_drewN B.out n15)
  go_wp2_with fail
  refine (calls_of_args (by rw [LM.out]) (laws_heldInt64SS.calls 5000000 a5_ k5_ (marks2 1 r) 1 (1 + total r) _ (Kd.S_reads' S4.out).2.2 (by rw [LM.out]; exact (Kd.S_reads' S4.out).2.1) HH.out)).mono ?_
  rintro e w' ⟨rfl, n16, rfl⟩
  replace S2 := Aside0.mk (Kd.S_drewN S2.out n16)
  replace S4 := Aside0.mk (Kd.S_drewN S4.out n16)
  replace S9 := Aside0.mk (Kd.S_drewN S9.out n16)
  replace B := Aside0.mk (pw_below_drewN B.out n16)
  go_wp2
  go_ret
  exact ⟨rfl, pw_below_drewN BK.out _⟩

set_option maxHeartbeats 4000000 in
theorem walk_big (a0 : Int) (A1 : Option Addr) (c1 : Nat) (l : List (List Int)) (t : Int) (w : World) (hr : Kd.C (Kd.slice 2 (Kd.int .i64)) w A1 l.length l) (hc : l.length ≤ c1) (hz : laws_szInt64SS.f 5000000 l 1048576 = some t) (ht : t < 0) :
    Calls Try.prog 11 #[.int .i64 a0, .slice A1 l.length c1] w fun e w' => e = .returned (.bool true) ∧ Below w.heap.size w w' := by
  have HZ := Aside0.mk hz
  have HR := Aside0.mk hr
  have HC := Aside0.mk hc
  have b0 : decide (t < 0) = true := decide_eq_true ht
  clear hz hr hc ht
  go_enter Try.func11, Try.ntmps11
  go_wp2_with fail
  refine (laws_szInt64SS.calls 5000000 A1 c1 l 1048576 t _ HR.out HC.out HZ.out).mono ?_
  rintro e w' ⟨rfl, n0, rfl⟩
  go_wp2
  go_ret
  exact ⟨rfl, pw_below_drewN (Below.refl _ _) _⟩

end Go.Proofs.Ytbpipmkgclkhgaa.Nest
