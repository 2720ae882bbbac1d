/- What a call of each Go function named below comes to is what the plain Lean function beside it says. Made by a program of this session out of the print of the translation; Lean checks it. -/
import Derived.Test.YtmgkalljgglabaaPx0
import Derived.Test.YtmgkalljgglabaaPx3
import Derived.Test.YtmgkalljgglabaaPx5
import Derived.Test.YtmgkalljgglabaaHandLit
namespace Go.Proofs.Ytmgkalljgglabaa.P
open Go.RowKit Go.Proofs.YtmgkalljgglabaaW.PrintWords Go.Proofs.YtmgkalljgglabaaW.PrintLast Go.Proofs.YtmgkalljgglabaaW.PrintMore
attribute [local go_sem] max2_int min2_int max_two min_two max_three min_three max_four min_four   -- for this text's walks alone
set_option linter.unusedVariables false
set_option linter.unusedSimpArgs false


/-! ### impl_CommutatorWord: function 41, by hand -/
def impl_CommutatorWord.f (k : Nat) (a0 : Int) (l1 : List Int) (l2 : List Int) : Option (List Int × Int) := (impl_IsGroupWord.f a0 l1).bind fun t1 => (if t1 = true then ((impl_IsGroupWord.f a0 l2).bind fun t2 => (if t2 = true then ((impl_inverseWord.f k l1).bind fun v1 => ((impl_inverseWord.f k l2).bind fun v2 => impl_joinedWord.f k [v1, v2, l1, l2])) else (some (([] : List Int), 2)))) else (some (([] : List Int), 2)))
theorem impl_CommutatorWord.mono : ∀ a0 a1 a2 k, LeO (impl_CommutatorWord.f k a0 a1 a2) (impl_CommutatorWord.f (k + 1) a0 a1 a2) := by
  intro a0 a1 a2 k
  unfold impl_CommutatorWord.f
  repeat' first
      | (with_reducible exact impl_joinedWord.mono _ _)
      | (with_reducible exact impl_inverseWord.mono _ _)
      | (with_reducible exact LeO.refl _)
      | (with_reducible refine LeO.ite ?_ ?_)
      | (with_reducible refine LeO.bind ?_ (fun _ => ?_))
      | exact impl_joinedWord.mono _ _
      | exact impl_inverseWord.mono _ _
      | refine LeO.ite ?_ ?_
      | refine LeO.bind ?_ (fun _ => ?_)
set_option maxHeartbeats 8000000 in
set_option maxRecDepth 100000 in
theorem impl_CommutatorWord.calls (k : Nat) (a0 : Int) (A1 : Option Addr) (c1 : Nat) (l1 : List Int) (A2 : Option Addr) (c2 : Nat) (l2 : List Int) (r1 : List Int) (r2 : Int) (w : World) (hr1 : Kd.C (Kd.int .i64) w A1 l1.length l1) (hc1 : l1.length ≤ c1) (hr2 : Kd.C (Kd.int .i64) w A2 l2.length l2) (hc2 : l2.length ≤ c2) (h : impl_CommutatorWord.f k a0 l1 l2 = some (r1, r2)) :
    Calls Try.prog 41 #[.int .i64 a0, .slice A1 l1.length c1, .slice A2 l2.length c2] w fun e w' => ∃ v0_ : Value, e = .returned (.tuple #[v0_, .int .i64 r2]) ∧ Kd.R (Kd.int .i64) 2 w' w.heap.size (fun _ => True) v0_ r1 ∧ Below w.heap.size w w' := by
  have HR1 := Aside0.mk hr1
  have HC1 := Aside0.mk hc1
  have HR2 := Aside0.mk hr2
  have HC2 := Aside0.mk hc2
  clear hr1 hc1 hr2 hc2
  have HB := Aside0.mk (Below.refl w.heap.size w)
  unfold impl_CommutatorWord.f at h
  obtain ⟨t1, e1, h⟩ := Option.bind_eq_some_iff.mp h
  have E1 := Aside0.mk e1
  clear e1
  cases t1 with
  | false =>
    rw [if_neg (by decide)] at h
    obtain ⟨rfl, rfl⟩ : ([] : List Int) = r1 ∧ (2 : Int) = r2 := by simpa using h
    clear h
    go_enter Try.func41, Try.ntmps41
    go_wp2_with (go_at_call 17; (with_reducible refine (impl_IsGroupWord.calls a0 _ _ l1 false _ ?sd ?se E1.out).mono ?_); (case sd => exact (by repeat (first | (with_reducible exact (Kd.C_below HR1.out HB.out)) | (with_reducible refine Kd.C_alloc ?_ _) | (with_reducible refine Kd.C_drewN ?_ _) | (with_reducible refine Kd.C_drew ?_) | exact (Kd.C_below HR1.out HB.out)))); (case se => exact HC1.out); rintro e w1 ⟨rfl, hb⟩; have n0_ := Aside0.mk (below_step HB.out hb); clear HB hb; have HB := n0_; clear n0_)
    go_ret2
    exact ⟨_, rfl, Kd.R_nil _ _ _ _ _, (by repeat (first | (with_reducible first | exact HB.out | apply below_alloc | apply pw_below_drewN | apply below_drew1) | exact HB.out))⟩
  | true =>
    rw [if_pos rfl] at h
    obtain ⟨t2, e2, h⟩ := Option.bind_eq_some_iff.mp h
    have E2 := Aside0.mk e2
    clear e2
    cases t2 with
    | false =>
      rw [if_neg (by decide)] at h
      obtain ⟨rfl, rfl⟩ : ([] : List Int) = r1 ∧ (2 : Int) = r2 := by simpa using h
      clear h
      go_enter Try.func41, Try.ntmps41
      go_wp2_with (first | (go_at_call 17; (with_reducible refine (impl_IsGroupWord.calls a0 _ _ l1 true _ ?sd ?se E1.out).mono ?_); (case sd => exact (by repeat (first | (with_reducible exact (Kd.C_below HR1.out HB.out)) | (with_reducible refine Kd.C_alloc ?_ _) | (with_reducible refine Kd.C_drewN ?_ _) | (with_reducible refine Kd.C_drew ?_) | exact (Kd.C_below HR1.out HB.out)))); (case se => exact HC1.out); rintro e w1 ⟨rfl, hb⟩; have n0_ := Aside0.mk (below_step HB.out hb); clear HB hb; have HB := n0_; clear n0_) | (go_at_call 17; (with_reducible refine (impl_IsGroupWord.calls a0 _ _ l2 false _ ?sd ?se E2.out).mono ?_); (case sd => exact (by repeat (first | (with_reducible exact (Kd.C_below HR2.out HB.out)) | (with_reducible refine Kd.C_alloc ?_ _) | (with_reducible refine Kd.C_drewN ?_ _) | (with_reducible refine Kd.C_drew ?_) | exact (Kd.C_below HR2.out HB.out)))); (case se => exact HC2.out); rintro e w1 ⟨rfl, hb⟩; have n0_ := Aside0.mk (below_step HB.out hb); clear HB hb; have HB := n0_; clear n0_))
      go_ret2
      exact ⟨_, rfl, Kd.R_nil _ _ _ _ _, (by repeat (first | (with_reducible first | exact HB.out | apply below_alloc | apply pw_below_drewN | apply below_drew1) | exact HB.out))⟩
    | true =>
      rw [if_pos rfl] at h
      obtain ⟨i1, e3, h⟩ := Option.bind_eq_some_iff.mp h
      have I1 := Aside0.mk e3
      clear e3
      obtain ⟨i2, e4, h⟩ := Option.bind_eq_some_iff.mp h
      have I2 := Aside0.mk e4
      clear e4
      have T := Aside0.mk h
      clear h
      go_enter Try.func41, Try.ntmps41
      go_wp2_with (first | (go_at_call 17; (with_reducible refine (impl_IsGroupWord.calls a0 _ _ l1 true _ ?sd ?se E1.out).mono ?_); (case sd => exact (by repeat (first | (with_reducible exact (Kd.C_below HR1.out HB.out)) | (with_reducible refine Kd.C_alloc ?_ _) | (with_reducible refine Kd.C_drewN ?_ _) | (with_reducible refine Kd.C_drew ?_) | exact (Kd.C_below HR1.out HB.out)))); (case se => exact HC1.out); rintro e w1 ⟨rfl, hb⟩; have n0_ := Aside0.mk (below_step HB.out hb); clear HB hb; have HB := n0_; clear n0_) | (go_at_call 17; (with_reducible refine (impl_IsGroupWord.calls a0 _ _ l2 true _ ?sd ?se E2.out).mono ?_); (case sd => exact (by repeat (first | (with_reducible exact (Kd.C_below HR2.out HB.out)) | (with_reducible refine Kd.C_alloc ?_ _) | (with_reducible refine Kd.C_drewN ?_ _) | (with_reducible refine Kd.C_drew ?_) | exact (Kd.C_below HR2.out HB.out)))); (case se => exact HC2.out); rintro e w1 ⟨rfl, hb⟩; have n0_ := Aside0.mk (below_step HB.out hb); clear HB hb; have HB := n0_; clear n0_) | (go_at_call 58; (with_reducible refine (impl_inverseWord.calls k _ _ l1 i1 _ ?sd ?se I1.out).mono ?_); (case sd => exact (by repeat (first | (with_reducible exact (Kd.C_below HR1.out HB.out)) | (with_reducible refine Kd.C_alloc ?_ _) | (with_reducible refine Kd.C_drewN ?_ _) | (with_reducible refine Kd.C_drew ?_) | exact (Kd.C_below HR1.out HB.out)))); (case se => exact HC1.out); rintro e w3 ⟨v1, rfl, hR, hb⟩; obtain ⟨B1, d1, rfl⟩ := Kd.R_slice hR; have HX1 := Aside0.mk (Kd.R_reads' hR).2.2; have HD1 := Aside0.mk (Kd.R_reads' hR).2.1; have n0_ := Aside0.mk (below_step (by repeat (first | (with_reducible first | exact HB.out | apply below_alloc | apply pw_below_drewN | apply below_drew1) | exact HB.out)) hb); clear HB hb hR; have HB := n0_; clear n0_) | (go_at_call 58; (with_reducible refine (impl_inverseWord.calls k _ _ l2 i2 _ ?sd ?se I2.out).mono ?_); (case sd => exact (by repeat (first | (with_reducible exact (Kd.C_below HR2.out HB.out)) | (with_reducible refine Kd.C_alloc ?_ _) | (with_reducible refine Kd.C_drewN ?_ _) | (with_reducible refine Kd.C_drew ?_) | exact (Kd.C_below HR2.out HB.out)))); (case se => exact HC2.out); rintro e w4 ⟨v2, rfl, hR, hb⟩; obtain ⟨B2, d2, rfl⟩ := Kd.R_slice hR; have HX2 := Aside0.mk (Kd.R_reads' hR).2.2; have HD2 := Aside0.mk (Kd.R_reads' hR).2.1; have m0_ := Aside0.mk (Kd.C_below HX1.out hb); clear HX1; have HX1 := m0_; clear m0_; have n0_ := Aside0.mk (below_step (by repeat (first | (with_reducible first | exact HB.out | apply below_alloc | apply pw_below_drewN | apply below_drew1) | exact HB.out)) hb); clear HB hb hR; have HB := n0_; clear n0_) | (go_at_call 63; refine (impl_joinedWord.calls k _ 4 [i1, i2, l1, l2] r1 r2 _ ?sd (Nat.le_refl _) T.out).mono ?_; (case sd => exact Hand.C_lit4 _ _ _ _ _ _ _ _ _ _ _ _ _ _ HX1.out HD1.out HX2.out HD2.out (by repeat (first | (with_reducible exact (Kd.C_below HR1.out HB.out)) | (with_reducible refine Kd.C_alloc ?_ _) | (with_reducible refine Kd.C_drewN ?_ _) | (with_reducible refine Kd.C_drew ?_) | exact (Kd.C_below HR1.out HB.out))) HC1.out (by repeat (first | (with_reducible exact (Kd.C_below HR2.out HB.out)) | (with_reducible refine Kd.C_alloc ?_ _) | (with_reducible refine Kd.C_drewN ?_ _) | (with_reducible refine Kd.C_drew ?_) | exact (Kd.C_below HR2.out HB.out))) HC2.out); rintro e w9 ⟨v9, rfl, hR, hb⟩; have HRR := Aside0.mk (Kd.R_lower hR (below_size (by repeat (first | (with_reducible first | exact HB.out | apply below_alloc | apply pw_below_drewN | apply below_drew1) | exact HB.out)))); have n0_ := Aside0.mk (below_step (by repeat (first | (with_reducible first | exact HB.out | apply below_alloc | apply pw_below_drewN | apply below_drew1) | exact HB.out)) hb); clear HB hb hR; have HB := n0_; clear n0_))
      go_ret2
      exact ⟨_, rfl, HRR.out, (by repeat (first | (with_reducible first | exact HB.out | apply below_alloc | apply pw_below_drewN | apply below_drew1) | exact HB.out))⟩


end Go.Proofs.Ytmgkalljgglabaa.P
