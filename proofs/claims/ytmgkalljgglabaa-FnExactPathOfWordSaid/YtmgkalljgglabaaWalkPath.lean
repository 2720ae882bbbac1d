/- laws.FnExactPathOfWord, at a d and a list: it returns true, and what was there before lies as it lay. -/
import Derived.Test.YtmgkalljgglabaaPx1
import Derived.Test.YtmgkalljgglabaaPx2
import Derived.Test.YtmgkalljgglabaaBasePath
import Derived.Test.YtmgkalljgglabaaBaseRows
namespace Go.Proofs.Ytmgkalljgglabaa.Nest
open Go.RowKit Go.Proofs.Ytmgkalljgglabaa.P Go.Proofs.Ytmgkalljgglabaa.Pure Go.Proofs.YtmgkalljgglabaaW.PrintWords Go.Proofs.YtmgkalljgglabaaW.PrintLast Go.Proofs.YtmgkalljgglabaaW.PrintMore
set_option linter.unusedVariables false
set_option linter.unusedSimpArgs false

theorem own2 {α : Type} {d : Kd α} {e : Nat} {w w1 w2 : World} {v : Value} {l : List α} (h : Kd.S d e w2 w1.heap.size (fun _ => True) v l) (hb : Below w.heap.size w w1) : Kd.S d e w2 w.heap.size (fun k => w1.heap.size ≤ k ∧ k < w2.heap.size) v l :=
  Kd.S_lower (Kd.S_mono (Kd.S_bound h) (fun k hk => ⟨hk.2.1, hk.2.2.1⟩)) hb.size
theorem own1 {α : Type} {d : Kd α} {e : Nat} {w w1 w2 : World} {v : Value} {l : List α} (h : d.R e w2 w1.heap.size (fun _ => True) v l) (hb : Below w.heap.size w w1) : d.R e w2 w.heap.size (fun k => w1.heap.size ≤ k ∧ k < w2.heap.size) v l :=
  Kd.R_lower (Kd.R_mono (Kd.R_bound h) (fun k hk => ⟨hk.2.1, hk.2.2.1⟩)) hb.size

set_option maxHeartbeats 8000000 in
set_option maxRecDepth 100000 in
theorem walk_path (d : Int) (A1 : Option Addr) (c1 : Nat) (l : List Int) (w : World) (hr : Kd.C (Kd.int .i64) w A1 l.length l) (hc : l.length ≤ c1) (hl : l.length ≤ 1048576) :
    Calls Try.prog 9 #[.int .i64 d, .slice A1 l.length c1] w fun e w' => e = .returned (.bool true) ∧ Below w.heap.size w w' := by
  have hn := pathRes_size d l
  have HS := Aside0.mk (spec_PathOfWord_f 3000000 d l (by omega))
  have HI := Aside0.mk (impl_PathOfWord_f 3000000 d l (by omega))
  generalize pathRes d l = R at hn HS HI
  obtain ⟨r, c⟩ := R
  dsimp only at hn HS HI
  have HT := Aside0.mk (toInt64S_f 3000000 l hl (by omega))
  have HE := Aside0.mk (eqInt64SS_f 3000000 r (by have := hn.1; omega) (by have := hn.2; omega) (by have := hn.1; have := hn.2; omega))
  have HL := Aside0.mk (eqInt64S_f 3000000 l (by omega) (by omega))
  have HM := Aside0.mk (markInt64S_f 3000000 l 1 (by omega) (by omega) (by omega) (by omega))
  have HH := Aside0.mk (heldInt64SS_f 3000000 r 1 (by have := hn.1; omega) (by have := hn.2; omega) (by have := hn.1; have := hn.2; omega) (by omega) (by omega))
  have HN := Aside0.mk hn
  have HR := Aside0.mk hr
  have HC := Aside0.mk hc
  have hz : decide ((1048576 : Int) < (l.length : Int)) = false := decide_eq_false (by omega)
  have hz2 : decide (1048576 < l.length) = false := decide_eq_false (by omega)
  have q1 : decide ((1 : Int) + (l.length : Int) < 0) = false := decide_eq_false (by omega)
  have q2 : decide ((1 : Int) + (total r : Int) < 0) = false := decide_eq_false (by omega)
  clear hn hr hc
  go_enter Try.func9, Try.ntmps9
  go_wp2_with fail
  refine (laws_toInt64S.calls 3000000 A1 c1 l l _ HR.out HC.out HT.out).mono ?_
  rintro e w1 ⟨v1, rfl, ho1, hb1⟩
  obtain ⟨a1, k1, rfl, hk1, hc1⟩ := Kd.R_reads ho1
  have B1 := Aside0.mk hb1; have C1 := Aside0.mk hc1; have K1 := Aside0.mk hk1
  clear hb1 hc1 hk1 ho1
  go_wp2_with fail
  refine (spec_PathOfWord.calls 3000000 d a1 k1 l r c _ C1.out K1.out HS.out).mono ?_
  rintro e w2 ⟨v2, rfl, ho2, hb2⟩
  have S2 := Aside0.mk (own2 ho2 B1.out)
  have B2 := Aside0.mk (below_step B1.out hb2)
  have Z2 := Aside0.mk hb2.size
  obtain ⟨a2, k2, rfl, _, _⟩ := Kd.S_reads ho2
  clear ho2 hb2
  go_wp2_with fail
  refine (laws_toInt64S.calls 3000000 A1 c1 l l _ (Kd.C_below HR.out B2.out) HC.out HT.out).mono ?_
  rintro e w3 ⟨v3, rfl, ho3, hb3⟩
  have S2' := Aside0.mk (Kd.S_below S2.out hb3)
  clear S2
  have S3 := Aside0.mk (own1 ho3 B2.out)
  have B3 := Aside0.mk (below_step B2.out hb3)
  have Z3 := Aside0.mk hb3.size
  obtain ⟨a3, k3, rfl, hk3, hc3⟩ := Kd.R_reads ho3
  have C3 := Aside0.mk hc3; have K3 := Aside0.mk hk3
  clear ho3 hb3 hk3 hc3
  go_wp2_with fail
  refine (impl_PathOfWord.calls 3000000 d a3 k3 l r c _ C3.out K3.out HI.out).mono ?_
  rintro e w4 ⟨v4, rfl, ho4, hb4⟩
  have S2 := Aside0.mk (Kd.S_below S2'.out hb4)
  have S3' := Aside0.mk (Kd.R_below S3.out hb4)
  clear S2' S3
  have S4 := Aside0.mk (own2 ho4 B3.out)
  have B4 := Aside0.mk (below_step B3.out hb4)
  have Z4 := Aside0.mk hb4.size
  obtain ⟨a4, k4, rfl, _, _⟩ := Kd.S_reads ho4
  clear ho4 hb4
  go_wp2_with fail
  refine (laws_eqInt64SS.calls 3000000 a4 k4 r a2 k2 r true _ (Kd.S_reads' S4.out).2.2 (Kd.S_reads' S4.out).2.1 (Kd.S_reads' S2.out).2.2 (Kd.S_reads' S2.out).2.1 HE.out).mono ?_
  rintro e w' ⟨rfl, n4, rfl⟩
  go_wp2_with fail
  refine (laws_toInt64S.calls 3000000 A1 c1 l l _ (Kd.C_below HR.out (pw_below_drewN B4.out _)) HC.out HT.out).mono ?_
  rintro e w5 ⟨v5, rfl, ho5, hb5⟩
  have S2' := Aside0.mk (Kd.S_below (Kd.S_drewN S2.out n4) hb5)
  have S3 := Aside0.mk (Kd.R_below (Kd.R_drewN S3'.out n4) hb5)
  have S4' := Aside0.mk (Kd.S_below (Kd.S_drewN S4.out n4) hb5)
  have B5 := Aside0.mk (below_step (pw_below_drewN B4.out n4) hb5)
  clear S2 S3' S4
  obtain ⟨a5, k5, rfl, hk5, hc5⟩ := Kd.R_reads ho5
  have C5 := Aside0.mk hc5; have K5 := Aside0.mk hk5
  clear ho5 hb5 hk5 hc5
  go_wp2_with fail
  refine (laws_eqInt64S.calls 3000000 a3 k3 l a5 k5 l true _ (Kd.R_reads' S3.out).2.2 (Kd.R_reads' S3.out).2.1 C5.out K5.out HL.out).mono ?_
  rintro e w' ⟨rfl, n5, rfl⟩
  go_wp2_with fail
  refine (laws_markInt64S.calls 3000000 _ _ l 1 _ _ w _ (pw_below_drewN B5.out n5) (Kd.R_drewN S3.out n5) HM.out).mono ?_
  rintro e w6 ⟨rfl, -, hb6, hk6⟩
  have S2 := Aside0.mk (Kd.S_kept (Kd.S_drewN S2'.out n5) hk6 (fun k h1 h2 => by have := h1.2; have := h2.1; omega))
  have S4 := Aside0.mk (Kd.S_kept (Kd.S_drewN S4'.out n5) hk6 (fun k h1 h2 => by have := h1.1; have := h2.2; omega))
  have B6 := Aside0.mk hb6
  clear hb6 hk6 S2' S4' S3
  go_wp2_with fail
  refine (laws_eqInt64SS.calls 3000000 a4 k4 r a2 k2 r true _ (Kd.S_reads' S4.out).2.2 (Kd.S_reads' S4.out).2.1 (Kd.S_reads' S2.out).2.2 (Kd.S_reads' S2.out).2.1 HE.out).mono ?_
  rintro e w' ⟨rfl, n6, rfl⟩
  go_wp2_with fail
  refine (markInt64SS_calls _ _ r 1 w _ (pw_below_drewN B6.out n6) (Kd.S_drewN S4.out n6) (by omega) (by omega) (by have := HN.out.1; omega) (by have := HN.out.2; omega)).mono ?_
  rintro e w7 ⟨rfl, ho7, hb7, hk7⟩
  have S2' := Aside0.mk (Kd.S_kept (Kd.S_drewN S2.out n6) hk7 (fun k h1 h2 => by have := h1.2; have := h2.1; have := Z3.out; omega))
  have S4' := Aside0.mk ho7
  have B7 := Aside0.mk hb7
  clear hb7 hk7 ho7 S2 S4
  have LM : Aside0 ((marks2 1 r).length = r.length) := ⟨marks2_length r 1⟩
  go_wp2_with fail
  refine (calls_of_args (by rw [LM.out]) (laws_heldInt64SS.calls 3000000 a4 k4 (marks2 1 r) 1 (1 + total r) _ ((Kd.S_reads' S4'.out).2.2) (by rw [LM.out]; exact (Kd.S_reads' S4'.out).2.1) HH.out)).mono ?_
  rintro e w' ⟨rfl, n7, rfl⟩
  go_wp2_with fail
  refine (laws_toInt64S.calls 3000000 A1 c1 l l _ (Kd.C_below HR.out (pw_below_drewN B7.out _)) HC.out HT.out).mono ?_
  rintro e w8 ⟨v8, rfl, ho8, hb8⟩
  have S2 := Aside0.mk (Kd.S_below (Kd.S_drewN S2'.out n7) hb8)
  have S4 := Aside0.mk (Kd.S_below (Kd.S_drewN S4'.out n7) hb8)
  have B8 := Aside0.mk (below_step (pw_below_drewN B7.out n7) hb8)
  clear S2' S4'
  obtain ⟨a8, k8, rfl, hk8, hc8⟩ := Kd.R_reads ho8
  have C8 := Aside0.mk hc8; have K8 := Aside0.mk hk8
  clear ho8 hb8 hk8 hc8
  go_wp2_with fail
  refine (impl_PathOfWord.calls 3000000 d a8 k8 l r c _ C8.out K8.out HI.out).mono ?_
  rintro e w9 ⟨v9, rfl, ho9, hb9⟩
  have S2' := Aside0.mk (Kd.S_below S2.out hb9)
  have S4' := Aside0.mk (Kd.S_below S4.out hb9)
  have B9 := Aside0.mk (below_step B8.out hb9)
  clear S2 S4
  obtain ⟨a9, k9, rfl, hk9, hc9⟩ := Kd.S_reads ho9
  have C9 := Aside0.mk hc9; have K9 := Aside0.mk hk9
  clear ho9 hb9 hk9 hc9
  go_wp2_with fail
  refine (laws_eqInt64SS.calls 3000000 a9 k9 r a2 k2 r true _ C9.out K9.out (Kd.S_reads' S2'.out).2.2 (Kd.S_reads' S2'.out).2.1 HE.out).mono ?_
  rintro e w' ⟨rfl, n9, rfl⟩
  go_wp2_with fail
  refine (calls_of_args (by rw [LM.out]) (laws_heldInt64SS.calls 3000000 a4 k4 (marks2 1 r) 1 (1 + total r) _ ((Kd.S_reads' (Kd.S_drewN S4'.out n9)).2.2) (by rw [LM.out]; exact (Kd.S_reads' S4'.out).2.1) HH.out)).mono ?_
  rintro e w' ⟨rfl, n10, rfl⟩
  go_wp2
  go_ret
  exact ⟨rfl, pw_below_drewN B9.out _⟩

set_option maxHeartbeats 1000000 in
theorem walk_long (d : Int) (A1 : Option Addr) (c1 : Nat) (l : List Int) (w : World) (hl : 1048576 < l.length) :
    Calls Try.prog 9 #[.int .i64 d, .slice A1 l.length c1] w fun e w' => e = .returned (.bool true) ∧ Below w.heap.size w w' := by
  have hz : decide ((1048576 : Int) < (l.length : Int)) = true := decide_eq_true (by omega)
  have hz2 : decide (1048576 < l.length) = true := decide_eq_true (by omega)
  clear hl
  go_enter Try.func9, Try.ntmps9
  go_wp2
  go_ret
  exact ⟨rfl, Below.refl _ _⟩
theorem walk_FnExactPathOfWord (a0 : Int) (a1 : Option Addr) (len1 cap1 : Nat) (z1 : List Int) (w : World) (w0 : (Lit.int .i64 a0).wf = true) (w1 : (a1 = none ∧ len1 = 0 ∧ cap1 = 0 ∧ z1 = []) ∨ ∃ x, a1 = some x ∧ len1 ≤ cap1 ∧ cap1 ≤ maxLen ∧ z1.length = cap1 ∧ (∀ i, i < z1.length → w.cell? (x.add i) = some (.int .i64 (z1.getD i 0))) ∧ ∀ n ∈ z1, (Lit.int .i64 n).wf = true) (y1 : len1 * 8 ≤ 140737488351232) :
    Calls Try.prog 9 #[.int .i64 a0, .slice a1 len1 cap1] w fun e w' => e = .returned (.bool true) ∧ Below w.heap.size w w' := by
  obtain ⟨l1, rfl, hr1, hm1, hw1, hc1⟩ := ReadsInt.ofRowC w1
  by_cases hl : l1.length ≤ 1048576
  · exact walk_path a0 a1 cap1 l1 w (Kd.C_of_reads (d := (0 : Int)) (h1 := fun _ => rfl) hr1) hc1 hl
  · exact walk_long a0 a1 cap1 l1 w (by omega)
end Go.Proofs.Ytmgkalljgglabaa.Nest
