/- What a call of each Go function named below comes to is what the plain Lean function beside it says. Made by a program of this session out of the print of the translation; Lean checks it. -/
import Derived.Test.YtkbneilobaehkaaPx0
import Derived.Test.YtkbneilobaehkaaPx1
import Derived.Test.YtkbneilobaehkaaPx4
import Derived.Test.YtkbneilobaehkaaPx7
import Derived.Test.YtkbneilobaehkaaPx11
import Derived.Test.YtkbneilobaehkaaPx12
import Derived.Test.YtkbneilobaehkaaPx13
import Derived.Test.YtkbneilobaehkaaPx14
import Derived.Test.YtkbneilobaehkaaPx16
import Derived.Test.YtkbneilobaehkaaPx17
import Derived.Test.YtkbneilobaehkaaPx18
import Derived.Test.YtkbneilobaehkaaPx19
import Derived.Test.YtkbneilobaehkaaFtDef
namespace Go.Proofs.Ytkbneilobaehkaa.P
open Go.RowKit Go.Proofs.YtkbneilobaehkaaW.PrintWords Go.Proofs.YtkbneilobaehkaaW.PrintLast Go.Proofs.YtkbneilobaehkaaW.PrintMore
attribute [local go_sem] max2_int min2_int max_two min_two max_three min_three max_four min_four   -- for this text's walks alone
set_option linter.unusedVariables false
set_option linter.unusedSimpArgs false


set_option maxHeartbeats 8000000 in
set_option maxRecDepth 100000 in
theorem laws_FnTables.calls (k : Nat) (A0 : Option Addr) (c0 : Nat) (l0 : List Int) (r : Bool) (w : World) (hr0 : Kd.C (Kd.int .u8) w A0 l0.length l0) (hc0 : l0.length ≤ c0) (h : laws_FnTables.f k l0 = some r) :
 Calls Try.prog 3 #[.slice A0 l0.length c0] w fun e w' => e = .returned (.bool r) ∧ Below w.heap.size w w' := by
 have HR0 := zA hr0
 have HC0 := zA hc0
 clear hr0 hc0
 have HB := zA (Below.refl w.heap.size w)
 have H : ((laws_big.f l0).bind fun t562 => (if t562 = true then (some true) else ((spec_DrawProductOfWord.f k l0).bind fun bt563 => ((impl_ProductOfWord.f k bt563.1 bt563.2.1 bt563.2.2).bind fun bt568 => ((spec_ProductOfWord.f k bt563.1 bt563.2.1 bt563.2.2).bind fun bt572 => (if bt568.2 = bt572.2 then ((laws_lists9.f k bt568.1 bt572.1).bind fun t576 => (if t576 = true then ((impl_AreTables.f bt563.1 bt563.2.1).bind fun t577 => ((spec_AreTables.f k bt563.1 bt563.2.1).bind fun t578 => (laws_FnTables.j0 k l0 bt563.1 bt563.2.1 bt563.2.2 bt568.1 bt568.2 (t577 != t578)))) else (laws_FnTables.j0 k l0 bt563.1 bt563.2.1 bt563.2.2 bt568.1 bt568.2 true))) else (laws_FnTables.j0 k l0 bt563.1 bt563.2.1 bt563.2.2 bt568.1 bt568.2 true))))))) = some r := h
 clear h
 replace H := Option.bind_eq_some_iff.mp H
 obtain ⟨t562, A20, H⟩ := H
 replace H : (if t562 = true then (some true) else ((spec_DrawProductOfWord.f k l0).bind fun bt563 => ((impl_ProductOfWord.f k bt563.1 bt563.2.1 bt563.2.2).bind fun bt568 => ((spec_ProductOfWord.f k bt563.1 bt563.2.1 bt563.2.2).bind fun bt572 => (if bt568.2 = bt572.2 then ((laws_lists9.f k bt568.1 bt572.1).bind fun t576 => (if t576 = true then ((impl_AreTables.f bt563.1 bt563.2.1).bind fun t577 => ((spec_AreTables.f k bt563.1 bt563.2.1).bind fun t578 => (laws_FnTables.j0 k l0 bt563.1 bt563.2.1 bt563.2.2 bt568.1 bt568.2 (t577 != t578)))) else (laws_FnTables.j0 k l0 bt563.1 bt563.2.1 bt563.2.2 bt568.1 bt568.2 true))) else (laws_FnTables.j0 k l0 bt563.1 bt563.2.1 bt563.2.2 bt568.1 bt568.2 true)))))) = some r := H
 have A2 := zA A20
 clear A20
 by_cases c3 : t562 = true
 ·subst c3
  have H1 : (some true) = some r := by rw [if_pos rfl] at H; exact H
  clear H
  have H := H1
  clear H1
  obtain rfl := Option.some.inj H
  go_enter Try.func3, Try.ntmps3
  go_wp2_with (first | (go_at_call 6; (with_reducible refine (laws_big.calls _ _ l0 true _ ?side1 ?side2 A2.out).mono ?_); (case side1 => repeat (exact HR0.out)); (case side2 => exact HC0.out); rintro e w' ⟨rfl, ⟨nd, rfl⟩⟩; (try first | exact ⟨rfl, _, World.drewN_drewN _ _ _⟩ | exact ⟨rfl, _, Eq.trans (World.drewN_drewN _ _ _) (congrArg (World.drewN _) (Nat.add_assoc _ _ _))⟩)))

  go_ret
  exact ⟨by rfl, zB⟩
 ·replace c3 := Bool.eq_false_iff.mpr c3
  subst c3
  have H1 : ((spec_DrawProductOfWord.f k l0).bind fun bt563 => ((impl_ProductOfWord.f k bt563.1 bt563.2.1 bt563.2.2).bind fun bt568 => ((spec_ProductOfWord.f k bt563.1 bt563.2.1 bt563.2.2).bind fun bt572 => (if bt568.2 = bt572.2 then ((laws_lists9.f k bt568.1 bt572.1).bind fun t576 => (if t576 = true then ((impl_AreTables.f bt563.1 bt563.2.1).bind fun t577 => ((spec_AreTables.f k bt563.1 bt563.2.1).bind fun t578 => (laws_FnTables.j0 k l0 bt563.1 bt563.2.1 bt563.2.2 bt568.1 bt568.2 (t577 != t578)))) else (laws_FnTables.j0 k l0 bt563.1 bt563.2.1 bt563.2.2 bt568.1 bt568.2 true))) else (laws_FnTables.j0 k l0 bt563.1 bt563.2.1 bt563.2.2 bt568.1 bt568.2 true))))) = some r := by rw [if_neg (show ¬ (false = true) by decide)] at H; exact H
  clear H
  have H := H1
  clear H1
  replace H := Option.bind_eq_some_iff.mp H
  obtain ⟨⟨t563, t564, t567⟩, A40, H⟩ := H
  replace H : ((impl_ProductOfWord.f k t563 t564 t567).bind fun bt568 => ((spec_ProductOfWord.f k t563 t564 t567).bind fun bt572 => (if bt568.2 = bt572.2 then ((laws_lists9.f k bt568.1 bt572.1).bind fun t576 => (if t576 = true then ((impl_AreTables.f t563 t564).bind fun t577 => ((spec_AreTables.f k t563 t564).bind fun t578 => (laws_FnTables.j0 k l0 t563 t564 t567 bt568.1 bt568.2 (t577 != t578)))) else (laws_FnTables.j0 k l0 t563 t564 t567 bt568.1 bt568.2 true))) else (laws_FnTables.j0 k l0 t563 t564 t567 bt568.1 bt568.2 true)))) = some r := H
  have A4 := zA A40
  clear A40
  replace H := Option.bind_eq_some_iff.mp H
  obtain ⟨⟨t568, t571⟩, A50, H⟩ := H
  replace H : ((spec_ProductOfWord.f k t563 t564 t567).bind fun bt572 => (if t571 = bt572.2 then ((laws_lists9.f k t568 bt572.1).bind fun t576 => (if t576 = true then ((impl_AreTables.f t563 t564).bind fun t577 => ((spec_AreTables.f k t563 t564).bind fun t578 => (laws_FnTables.j0 k l0 t563 t564 t567 t568 t571 (t577 != t578)))) else (laws_FnTables.j0 k l0 t563 t564 t567 t568 t571 true))) else (laws_FnTables.j0 k l0 t563 t564 t567 t568 t571 true))) = some r := H
  have A5 := zA A50
  clear A50
  replace H := Option.bind_eq_some_iff.mp H
  obtain ⟨⟨t572, t573⟩, A60, H⟩ := H
  replace H : (if t571 = t573 then ((laws_lists9.f k t568 t572).bind fun t576 => (if t576 = true then ((impl_AreTables.f t563 t564).bind fun t577 => ((spec_AreTables.f k t563 t564).bind fun t578 => (laws_FnTables.j0 k l0 t563 t564 t567 t568 t571 (t577 != t578)))) else (laws_FnTables.j0 k l0 t563 t564 t567 t568 t571 true))) else (laws_FnTables.j0 k l0 t563 t564 t567 t568 t571 true)) = some r := H
  have A6 := zA A60
  clear A60
  have HC7 := zA H
  clear H
  go_enter Try.func3, Try.ntmps3
  go_upto_region 6 with (first | (go_at_call 6; (with_reducible refine (laws_big.calls _ _ l0 false _ ?side1 ?side2 A2.out).mono ?_); (case side1 => repeat (exact HR0.out)); (case side2 => exact HC0.out); rintro e w' ⟨rfl, ⟨nd, rfl⟩⟩; (try first | exact ⟨rfl, _, World.drewN_drewN _ _ _⟩ | exact ⟨rfl, _, Eq.trans (World.drewN_drewN _ _ _) (congrArg (World.drewN _) (Nat.add_assoc _ _ _))⟩)) | (go_at_call 7; (with_reducible refine (spec_DrawProductOfWord.calls k _ _ l0 t563 t564 t567 _ ?side1 ?side2 A4.out).mono ?_); (case side1 => repeat (exact HR0.out)); (case side2 => exact HC0.out); rintro e w8 ⟨v565, rfl, ho0, hb⟩; have HO566 := zA (Kd.N_lower (Kd.N_mono (ok' := fun k_ => True) ho0 (fun k_ hk_ => trivial)) (below_size zB)); replace HB := zA (below_step zB hb); (try clear hb); (try clear hb2); (try clear hk); (try clear hi); (try clear ho0); obtain ⟨Ao9, co9, eo9⟩ := Kd.N_slice HO566.out; subst eo9) | (go_at_call 8; (with_reducible refine (impl_ProductOfWord.calls k t563 _ _ t564 t567 t568 t571 _ ?side1 ?side2 A5.out).mono ?_); (case side1 => repeat (exact (Kd.N_reads' HO566.out).2.2)); (case side2 => exact (Kd.N_reads' HO566.out).2.1); rintro e w10 ⟨v569, rfl, ho0, hb⟩; have HO570 := zA (Kd.N_lower (Kd.N_mono (ok' := fun k_ => some k_ ≠ (.slice Ao9 t564.length co9 : Value).ownBlock) ho0 (fun k_ hk_ => (Kd.fresh' (Kd.N_lt (by exact HO566.out)) k_ hk_))) (below_size zB)); replace HO566 := zA (Kd.N_elder' (by exact HO566.out) (Kd.N_base ho0) hb); replace HB := zA (below_step zB hb); (try clear hb); (try clear hb2); (try clear hk); (try clear hi); (try clear ho0)) | (go_at_call 9; (with_reducible refine (spec_ProductOfWord.calls k t563 _ _ t564 t567 t572 t573 _ ?side1 ?side2 A6.out).mono ?_); (case side1 => repeat (exact (Kd.N_reads' HO566.out).2.2)); (case side2 => exact (Kd.N_reads' HO566.out).2.1); rintro e w11 ⟨v574, rfl, ho0, hb⟩; have HO575 := zA (Kd.N_lower (Kd.N_mono (ok' := fun k_ => some k_ ≠ (.slice Ao9 t564.length co9 : Value).ownBlock ∧ some k_ ≠ (v569 : Value).ownBlock) (Kd.S_N (Kd.S_bound ho0)) (fun k_ hk_ => ⟨(Kd.fresh' (Kd.N_lt (by exact HO566.out)) k_ hk_.2.1), (Kd.fresh' (Kd.N_lt (by exact HO570.out)) k_ hk_.2.1)⟩)) (below_size zB)); replace HO566 := zA (Kd.N_elder' (by exact HO566.out) (Kd.N_base (Kd.S_N (Kd.S_bound ho0))) hb); replace HO570 := zA (Kd.N_elder' (by exact HO570.out) (Kd.N_base (Kd.S_N (Kd.S_bound ho0))) hb); replace HB := zA (below_step zB hb); (try clear hb); (try clear hb2); (try clear hk); (try clear hi); (try clear ho0)))

  (try simp only [Act.put, List.setIfInBounds_toArray, List.set])
  go_cut [88] (fun v88 wc => ∃ (kq : Nat) (x88_6 : Bool), v88 = .bool x88_6 ∧ Aside0 (laws_FnTables.j0 kq l0 t563 t564 t567 t568 t571 x88_6 = some r) ∧ Aside0 (kq ≤ k) ∧ Aside0 (Kd.N (Kd.slice 45 (Kd.slice 2 (Kd.int .i64))) 27 wc w.heap.size (fun k_ => some k_ ≠ (v569 : Value).ownBlock) (.slice Ao9 t564.length co9) t564) ∧ Aside0 (Kd.N (Kd.slice 2 (Kd.int .i64)) 45 wc w.heap.size (fun k_ => some k_ ≠ ((.slice Ao9 t564.length co9) : Value).ownBlock) v569 t568) ∧ Aside0 (Below w.heap.size w wc))
  case first => as_aux_lemma =>
   have H := HC7.out
   clear HC7
   by_cases c12 : t571 = t573
   ·rw [if_pos c12] at H
    have c12b0 : (t571 == t573) = true := beq_iff_eq.mpr c12
    have c12b1 : (t571 != t573) = false := bne_eq_false_iff_eq.mpr c12
    clear c12
    (skip)
    replace H := Option.bind_eq_some_iff.mp H
    obtain ⟨t576, A130, H⟩ := H
    replace H : (if t576 = true then ((impl_AreTables.f t563 t564).bind fun t577 => ((spec_AreTables.f k t563 t564).bind fun t578 => (laws_FnTables.j0 k l0 t563 t564 t567 t568 t571 (t577 != t578)))) else (laws_FnTables.j0 k l0 t563 t564 t567 t568 t571 true)) = some r := H
    have A13 := zA A130
    clear A130
    by_cases c14 : t576 = true
    ·subst c14
     have H1 : ((impl_AreTables.f t563 t564).bind fun t577 => ((spec_AreTables.f k t563 t564).bind fun t578 => (laws_FnTables.j0 k l0 t563 t564 t567 t568 t571 (t577 != t578)))) = some r := by rw [if_pos rfl] at H; exact H
     clear H
     have H := H1
     clear H1
     replace H := Option.bind_eq_some_iff.mp H
     obtain ⟨t577, A150, H⟩ := H
     replace H : ((spec_AreTables.f k t563 t564).bind fun t578 => (laws_FnTables.j0 k l0 t563 t564 t567 t568 t571 (t577 != t578))) = some r := H
     have A15 := zA A150
     clear A150
     replace H := Option.bind_eq_some_iff.mp H
     obtain ⟨t578, A160, H⟩ := H
     replace H : (laws_FnTables.j0 k l0 t563 t564 t567 t568 t571 (t577 != t578)) = some r := H
     have A16 := zA A160
     clear A160
     have H' := zA H
     clear H
     obtain ⟨Ao17, co17, eo17⟩ := Kd.N_slice HO570.out
     subst eo17
     obtain ⟨Ao18, co18, eo18⟩ := Kd.N_slice HO575.out
     subst eo18
     go_wp2_with (first | (go_at_call 10; (with_reducible refine (laws_lists9.calls k _ _ t568 _ _ t572 true _ ?side1 ?side2 ?side3 ?side4 A13.out).mono ?_); (case side1 => repeat (exact (Kd.N_reads' HO570.out).2.2)); (case side2 => exact (Kd.N_reads' HO570.out).2.1); (case side3 => repeat (exact (Kd.N_reads' HO575.out).2.2)); (case side4 => exact (Kd.N_reads' HO575.out).2.1); rintro e w' ⟨rfl, ⟨nd, rfl⟩⟩; (try first | exact ⟨rfl, _, World.drewN_drewN _ _ _⟩ | exact ⟨rfl, _, Eq.trans (World.drewN_drewN _ _ _) (congrArg (World.drewN _) (Nat.add_assoc _ _ _))⟩)) | (go_at_call 11; (with_reducible refine (impl_AreTables.calls t563 _ _ t564 t577 _ ?side1 ?side2 A15.out).mono ?_); (case side1 => repeat (exact (Kd.N_reads' HO566.out).2.2)); (case side2 => exact (Kd.N_reads' HO566.out).2.1); rintro e w19 ⟨rfl, hb⟩; replace HO566 := zA (Kd.N_below (by (with_reducible repeat (apply Kd.N_drewN)); exact HO566.out) hb); replace HO570 := zA (Kd.N_below (by (with_reducible repeat (apply Kd.N_drewN)); exact HO570.out) hb); replace HO575 := zA (Kd.N_below (by (with_reducible repeat (apply Kd.N_drewN)); exact HO575.out) hb); replace HB := zA (below_step zB hb); (try clear hb); (try clear hb2); (try clear hk); (try clear hi)) | (go_at_call 12; (with_reducible refine (spec_AreTables.calls k t563 _ _ t564 t578 _ ?side1 ?side2 A16.out).mono ?_); (case side1 => repeat (exact (Kd.N_reads' HO566.out).2.2)); (case side2 => exact (Kd.N_reads' HO566.out).2.1); rintro e w' ⟨rfl, ⟨nd, rfl⟩⟩; (try first | exact ⟨rfl, _, World.drewN_drewN _ _ _⟩ | exact ⟨rfl, _, Eq.trans (World.drewN_drewN _ _ _) (congrArg (World.drewN _) (Nat.add_assoc _ _ _))⟩)))

     go_meet
     case rel => exact ⟨_, ((t577 != t578)), (by rfl), H', ⟨by omega⟩, ⟨by (with_reducible repeat (apply Kd.N_drewN)); exact Kd.N_mono HO566.out (fun _ hk => hk.1.2)⟩, ⟨by (with_reducible repeat (apply Kd.N_drewN)); exact Kd.N_mono HO570.out (fun _ hk => hk.1)⟩, ⟨zB⟩⟩
    ·replace c14 := Bool.eq_false_iff.mpr c14
     subst c14
     have H1 : (laws_FnTables.j0 k l0 t563 t564 t567 t568 t571 true) = some r := by rw [if_neg (show ¬ (false = true) by decide)] at H; exact H
     clear H
     have H := H1
     clear H1
     have H' := zA H
     clear H
     obtain ⟨Ao20, co20, eo20⟩ := Kd.N_slice HO570.out
     subst eo20
     obtain ⟨Ao21, co21, eo21⟩ := Kd.N_slice HO575.out
     subst eo21
     go_wp2_with (first | (go_at_call 10; (with_reducible refine (laws_lists9.calls k _ _ t568 _ _ t572 false _ ?side1 ?side2 ?side3 ?side4 A13.out).mono ?_); (case side1 => repeat (exact (Kd.N_reads' HO570.out).2.2)); (case side2 => exact (Kd.N_reads' HO570.out).2.1); (case side3 => repeat (exact (Kd.N_reads' HO575.out).2.2)); (case side4 => exact (Kd.N_reads' HO575.out).2.1); rintro e w' ⟨rfl, ⟨nd, rfl⟩⟩; (try first | exact ⟨rfl, _, World.drewN_drewN _ _ _⟩ | exact ⟨rfl, _, Eq.trans (World.drewN_drewN _ _ _) (congrArg (World.drewN _) (Nat.add_assoc _ _ _))⟩)))

     go_meet
     case rel => exact ⟨_, (true), (by rfl), H', ⟨by omega⟩, ⟨by (with_reducible repeat (apply Kd.N_drewN)); exact Kd.N_mono HO566.out (fun _ hk => hk.1.2)⟩, ⟨by (with_reducible repeat (apply Kd.N_drewN)); exact Kd.N_mono HO570.out (fun _ hk => hk.1)⟩, ⟨zB⟩⟩
   ·rw [if_neg c12] at H
    have c12b0 : (t571 == t573) = false := beq_eq_false_iff_ne.mpr c12
    have c12b1 : (t571 != t573) = true := bne_iff_ne.mpr c12
    (skip)
    have H' := zA H
    clear H
    go_wp2
    repeat (go_quiet (fail); try go_wp2)
    go_meet
    case rel => exact ⟨_, (true), (by rfl), H', ⟨by omega⟩, ⟨by exact Kd.N_mono HO566.out (fun _ hk => hk.1.2)⟩, ⟨by exact Kd.N_mono HO570.out (fun _ hk => hk.1)⟩, ⟨zB⟩⟩
  case rest => as_aux_lemma =>
   clear HC7
   obtain ⟨kq, x88_6, rfl, HA, HJ6, HO_4, HO_6, HB⟩ := hcut
   cases kq with
   | zero => exact absurd HA.out (by simp [laws_FnTables.j0])
   | succ kj6 =>
    have H := HA.out
    clear HA
    simp only [laws_FnTables.j0] at H
    by_cases c22 : x88_6 = true
    ·subst c22
     have H1 : (some false) = some r := by rw [if_pos rfl] at H; exact H
     clear H
     have H := H1
     clear H1
     obtain rfl := Option.some.inj H
     go_wp2
     repeat (go_quiet (fail); try go_wp2)
     go_ret
     exact ⟨by rfl, zB⟩
    ·replace c22 := Bool.eq_false_iff.mpr c22
     subst c22
     have H1 : ((spec_DrawVanishAt.f kj6 l0).bind fun bt579 => ((impl_VanishAt.f kj6 bt579.1 bt579.2.1 bt579.2.2).bind fun bt584 => ((spec_VanishAt.f kj6 bt579.1 bt579.2.1 bt579.2.2).bind fun bt586 => (if bt584.2 = bt586.2 then (laws_FnTables.j1 kj6 l0 t563 t564 t567 t568 t571 (bt584.1 != bt586.1)) else (laws_FnTables.j1 kj6 l0 t563 t564 t567 t568 t571 true))))) = some r := by rw [if_neg (show ¬ (false = true) by decide)] at H; exact H
     clear H
     have H := H1
     clear H1
     replace H := Option.bind_eq_some_iff.mp H
     obtain ⟨⟨t579, t580, t583⟩, A230, H⟩ := H
     replace H : ((impl_VanishAt.f kj6 t579 t580 t583).bind fun bt584 => ((spec_VanishAt.f kj6 t579 t580 t583).bind fun bt586 => (if bt584.2 = bt586.2 then (laws_FnTables.j1 kj6 l0 t563 t564 t567 t568 t571 (bt584.1 != bt586.1)) else (laws_FnTables.j1 kj6 l0 t563 t564 t567 t568 t571 true)))) = some r := H
     have A23 := zA A230
     clear A230
     replace H := Option.bind_eq_some_iff.mp H
     obtain ⟨⟨t584, t585⟩, A240, H⟩ := H
     replace H : ((spec_VanishAt.f kj6 t579 t580 t583).bind fun bt586 => (if t585 = bt586.2 then (laws_FnTables.j1 kj6 l0 t563 t564 t567 t568 t571 (t584 != bt586.1)) else (laws_FnTables.j1 kj6 l0 t563 t564 t567 t568 t571 true))) = some r := H
     have A24 := zA A240
     clear A240
     replace H := Option.bind_eq_some_iff.mp H
     obtain ⟨⟨t586, t587⟩, A250, H⟩ := H
     replace H : (if t585 = t587 then (laws_FnTables.j1 kj6 l0 t563 t564 t567 t568 t571 (t584 != t586)) else (laws_FnTables.j1 kj6 l0 t563 t564 t567 t568 t571 true)) = some r := H
     have A25 := zA A250
     clear A250
     have HC26 := zA H
     clear H
     go_upto_region 11 with (first | (go_at_call 13; (with_reducible refine (spec_DrawVanishAt.calls kj6 _ _ l0 t579 t580 t583 _ ?side1 ?side2 A23.out).mono ?_); (case side1 => repeat (exact (Kd.C_below HR0.out HB.out))); (case side2 => exact HC0.out); rintro e w27 ⟨v581, rfl, ho0, hb⟩; have HO582 := zA (Kd.N_lower (Kd.N_mono (ok' := fun k_ => some k_ ≠ (.slice Ao9 t564.length co9 : Value).ownBlock ∧ some k_ ≠ (v569 : Value).ownBlock) ho0 (fun k_ hk_ => ⟨(Kd.fresh' (Kd.N_lt (by exact HO_4.out)) k_ hk_), (Kd.fresh' (Kd.N_lt (by exact HO_6.out)) k_ hk_)⟩)) (below_size zB)); replace HO_4 := zA (Kd.N_elder' (by exact HO_4.out) (Kd.N_base ho0) hb); replace HO_6 := zA (Kd.N_elder' (by exact HO_6.out) (Kd.N_base ho0) hb); replace HB := zA (below_step zB hb); (try clear hb); (try clear hb2); (try clear hk); (try clear hi); (try clear ho0); obtain ⟨Ao28, co28, eo28⟩ := Kd.N_slice HO582.out; subst eo28) | (go_at_call 14; (with_reducible refine (impl_VanishAt.calls kj6 t579 _ _ t580 t583 t584 t585 _ ?side1 ?side2 A24.out).mono ?_); (case side1 => repeat (exact (Kd.N_reads' HO582.out).2.2)); (case side2 => exact (Kd.N_reads' HO582.out).2.1); rintro e w29 ⟨rfl, hb⟩; replace HO_4 := zA (Kd.N_below (by exact HO_4.out) hb); replace HO_6 := zA (Kd.N_below (by exact HO_6.out) hb); replace HO582 := zA (Kd.N_below (by exact HO582.out) hb); replace HB := zA (below_step zB hb); (try clear hb); (try clear hb2); (try clear hk); (try clear hi)) | (go_at_call 15; (with_reducible refine (spec_VanishAt.calls kj6 t579 _ _ t580 t583 t586 t587 _ ?side1 ?side2 A25.out).mono ?_); (case side1 => repeat (exact (Kd.N_reads' HO582.out).2.2)); (case side2 => exact (Kd.N_reads' HO582.out).2.1); rintro e w30 ⟨rfl, hb⟩; replace HO_4 := zA (Kd.N_below (by exact HO_4.out) hb); replace HO_6 := zA (Kd.N_below (by exact HO_6.out) hb); replace HO582 := zA (Kd.N_below (by exact HO582.out) hb); replace HB := zA (below_step zB hb); (try clear hb); (try clear hb2); (try clear hk); (try clear hi)))

     (try simp only [Act.put, List.setIfInBounds_toArray, List.set])
     go_cut [116] (fun v116 wc => ∃ (kq : Nat) (x116_25 : Bool), v116 = .bool x116_25 ∧ Aside0 (laws_FnTables.j1 kq l0 t563 t564 t567 t568 t571 x116_25 = some r) ∧ Aside0 (kq ≤ kj6) ∧ Aside0 (Kd.N (Kd.slice 45 (Kd.slice 2 (Kd.int .i64))) 27 wc w.heap.size (fun k_ => some k_ ≠ (v569 : Value).ownBlock) (.slice Ao9 t564.length co9) t564) ∧ Aside0 (Kd.N (Kd.slice 2 (Kd.int .i64)) 45 wc w.heap.size (fun k_ => some k_ ≠ ((.slice Ao9 t564.length co9) : Value).ownBlock) v569 t568) ∧ Aside0 (Below w.heap.size w wc))
     case first => as_aux_lemma =>
      have H := HC26.out
      clear HC26
      by_cases c31 : t585 = t587
      ·rw [if_pos c31] at H
       have c31b0 : (t585 == t587) = true := beq_iff_eq.mpr c31
       have c31b1 : (t585 != t587) = false := bne_eq_false_iff_eq.mpr c31
       clear c31
       (skip)
       have H' := zA H
       clear H
       go_wp2
       repeat (go_quiet (fail); try go_wp2)
       go_meet
       case rel => exact ⟨_, ((t584 != t586)), (by rfl), H', ⟨by have := HJ6.out; omega⟩, ⟨by exact Kd.N_mono HO_4.out (fun _ hk => hk.1)⟩, ⟨by exact Kd.N_mono HO_6.out (fun _ hk => hk.1)⟩, ⟨zB⟩⟩
      ·rw [if_neg c31] at H
       have c31b0 : (t585 == t587) = false := beq_eq_false_iff_ne.mpr c31
       have c31b1 : (t585 != t587) = true := bne_iff_ne.mpr c31
       (skip)
       have H' := zA H
       clear H
       go_wp2
       repeat (go_quiet (fail); try go_wp2)
       go_meet
       case rel => exact ⟨_, (true), (by rfl), H', ⟨by have := HJ6.out; omega⟩, ⟨by exact Kd.N_mono HO_4.out (fun _ hk => hk.1)⟩, ⟨by exact Kd.N_mono HO_6.out (fun _ hk => hk.1)⟩, ⟨zB⟩⟩
     case rest => as_aux_lemma =>
      clear HC26
      obtain ⟨kq, x116_25, rfl, HA, HJ25, HO_4, HO_6, HB⟩ := hcut
      cases kq with
      | zero => exact absurd HA.out (by simp [laws_FnTables.j1])
      | succ kj25 =>
       have H := HA.out
       clear HA
       simp only [laws_FnTables.j1] at H
       by_cases c32 : x116_25 = true
       ·subst c32
        have H1 : (some false) = some r := by rw [if_pos rfl] at H; exact H
        clear H
        have H := H1
        clear H1
        obtain rfl := Option.some.inj H
        go_wp2
        repeat (go_quiet (fail); try go_wp2)
        go_ret
        exact ⟨by rfl, zB⟩
       ·replace c32 := Bool.eq_false_iff.mpr c32
        subst c32
        have H1 : ((impl_DoTablesCommute.f kj25 t563 t564).bind fun bt588 => ((spec_DoTablesCommute.f kj25 t563 t564).bind fun bt590 => (if bt588.2 = bt590.2 then (laws_FnTables.j2 kj25 l0 t563 t564 t567 t568 t571 (bt588.1 != bt590.1)) else (laws_FnTables.j2 kj25 l0 t563 t564 t567 t568 t571 true)))) = some r := by rw [if_neg (show ¬ (false = true) by decide)] at H; exact H
        clear H
        have H := H1
        clear H1
        replace H := Option.bind_eq_some_iff.mp H
        obtain ⟨⟨t588, t589⟩, A330, H⟩ := H
        replace H : ((spec_DoTablesCommute.f kj25 t563 t564).bind fun bt590 => (if t589 = bt590.2 then (laws_FnTables.j2 kj25 l0 t563 t564 t567 t568 t571 (t588 != bt590.1)) else (laws_FnTables.j2 kj25 l0 t563 t564 t567 t568 t571 true))) = some r := H
        have A33 := zA A330
        clear A330
        replace H := Option.bind_eq_some_iff.mp H
        obtain ⟨⟨t590, t591⟩, A340, H⟩ := H
        replace H : (if t589 = t591 then (laws_FnTables.j2 kj25 l0 t563 t564 t567 t568 t571 (t588 != t590)) else (laws_FnTables.j2 kj25 l0 t563 t564 t567 t568 t571 true)) = some r := H
        have A34 := zA A340
        clear A340
        have HC35 := zA H
        clear H
        go_upto_region 15 with (first | (go_at_call 16; (with_reducible refine (impl_DoTablesCommute.calls kj25 t563 _ _ t564 t588 t589 _ ?side1 ?side2 A33.out).mono ?_); (case side1 => repeat (exact (Kd.N_reads' HO_4.out).2.2)); (case side2 => exact (Kd.N_reads' HO_4.out).2.1); rintro e w36 ⟨rfl, hb⟩; replace HO_4 := zA (Kd.N_below (by exact HO_4.out) hb); replace HO_6 := zA (Kd.N_below (by exact HO_6.out) hb); replace HB := zA (below_step zB hb); (try clear hb); (try clear hb2); (try clear hk); (try clear hi)) | (go_at_call 17; (with_reducible refine (spec_DoTablesCommute.calls kj25 t563 _ _ t564 t590 t591 _ ?side1 ?side2 A34.out).mono ?_); (case side1 => repeat (exact (Kd.N_reads' HO_4.out).2.2)); (case side2 => exact (Kd.N_reads' HO_4.out).2.1); rintro e w37 ⟨rfl, hb⟩; replace HO_4 := zA (Kd.N_below (by exact HO_4.out) hb); replace HO_6 := zA (Kd.N_below (by exact HO_6.out) hb); replace HB := zA (below_step zB hb); (try clear hb); (try clear hb2); (try clear hk); (try clear hi)))

        (try simp only [Act.put, List.setIfInBounds_toArray, List.set])
        go_cut [136] (fun v136 wc => ∃ (kq : Nat) (x136_34 : Bool), v136 = .bool x136_34 ∧ Aside0 (laws_FnTables.j2 kq l0 t563 t564 t567 t568 t571 x136_34 = some r) ∧ Aside0 (kq ≤ kj25) ∧ Aside0 (Kd.N (Kd.slice 45 (Kd.slice 2 (Kd.int .i64))) 27 wc w.heap.size (fun k_ => some k_ ≠ (v569 : Value).ownBlock) (.slice Ao9 t564.length co9) t564) ∧ Aside0 (Kd.N (Kd.slice 2 (Kd.int .i64)) 45 wc w.heap.size (fun k_ => some k_ ≠ ((.slice Ao9 t564.length co9) : Value).ownBlock) v569 t568) ∧ Aside0 (Below w.heap.size w wc))
        case first => as_aux_lemma =>
         have H := HC35.out
         clear HC35
         by_cases c38 : t589 = t591
         ·rw [if_pos c38] at H
          have c38b0 : (t589 == t591) = true := beq_iff_eq.mpr c38
          have c38b1 : (t589 != t591) = false := bne_eq_false_iff_eq.mpr c38
          clear c38
          (skip)
          have H' := zA H
          clear H
          go_wp2
          repeat (go_quiet (fail); try go_wp2)
          go_meet
          case rel => exact ⟨_, ((t588 != t590)), (by rfl), H', ⟨by have := HJ6.out; have := HJ25.out; omega⟩, ⟨by exact HO_4.out⟩, ⟨by exact HO_6.out⟩, ⟨zB⟩⟩
         ·rw [if_neg c38] at H
          have c38b0 : (t589 == t591) = false := beq_eq_false_iff_ne.mpr c38
          have c38b1 : (t589 != t591) = true := bne_iff_ne.mpr c38
          (skip)
          have H' := zA H
          clear H
          go_wp2
          repeat (go_quiet (fail); try go_wp2)
          go_meet
          case rel => exact ⟨_, (true), (by rfl), H', ⟨by have := HJ6.out; have := HJ25.out; omega⟩, ⟨by exact HO_4.out⟩, ⟨by exact HO_6.out⟩, ⟨zB⟩⟩
        case rest => as_aux_lemma =>
         clear HC35
         obtain ⟨kq, x136_34, rfl, HA, HJ34, HO_4, HO_6, HB⟩ := hcut
         cases kq with
         | zero => exact absurd HA.out (by simp [laws_FnTables.j2])
         | succ kj34 =>
          have H := HA.out
          clear HA
          simp only [laws_FnTables.j2] at H
          by_cases c39 : x136_34 = true
          ·subst c39
           have H1 : (some false) = some r := by rw [if_pos rfl] at H; exact H
           clear H
           have H := H1
           clear H1
           obtain rfl := Option.some.inj H
           go_wp2
           repeat (go_quiet (fail); try go_wp2)
           go_ret
           exact ⟨by rfl, zB⟩
          ·replace c39 := Bool.eq_false_iff.mpr c39
           subst c39
           have H1 : ((spec_DrawTablesOfWord.f kj34 l0).bind fun bt592 => ((impl_TablesOfWord.f kj34 bt592.1 bt592.2).bind fun bt594 => ((spec_TablesOfWord.f kj34 bt592.1 bt592.2).bind fun bt598 => (if bt594.2 = bt598.2 then (laws_FnTables.j3 kj34 l0 t563 t564 t567 t568 t571 bt592.1 bt592.2 bt594.1 bt594.2 bt598.1 ((bt594.1.length : Int) != (bt598.1.length : Int))) else (laws_FnTables.j3 kj34 l0 t563 t564 t567 t568 t571 bt592.1 bt592.2 bt594.1 bt594.2 bt598.1 true))))) = some r := by rw [if_neg (show ¬ (false = true) by decide)] at H; exact H
           clear H
           have H := H1
           clear H1
           replace H := Option.bind_eq_some_iff.mp H
           obtain ⟨⟨t592, t593⟩, A400, H⟩ := H
           replace H : ((impl_TablesOfWord.f kj34 t592 t593).bind fun bt594 => ((spec_TablesOfWord.f kj34 t592 t593).bind fun bt598 => (if bt594.2 = bt598.2 then (laws_FnTables.j3 kj34 l0 t563 t564 t567 t568 t571 t592 t593 bt594.1 bt594.2 bt598.1 ((bt594.1.length : Int) != (bt598.1.length : Int))) else (laws_FnTables.j3 kj34 l0 t563 t564 t567 t568 t571 t592 t593 bt594.1 bt594.2 bt598.1 true)))) = some r := H
           have A40 := zA A400
           clear A400
           replace H := Option.bind_eq_some_iff.mp H
           obtain ⟨⟨t594, t595⟩, A410, H⟩ := H
           replace H : ((spec_TablesOfWord.f kj34 t592 t593).bind fun bt598 => (if t595 = bt598.2 then (laws_FnTables.j3 kj34 l0 t563 t564 t567 t568 t571 t592 t593 t594 t595 bt598.1 ((t594.length : Int) != (bt598.1.length : Int))) else (laws_FnTables.j3 kj34 l0 t563 t564 t567 t568 t571 t592 t593 t594 t595 bt598.1 true))) = some r := H
           have A41 := zA A410
           clear A410
           replace H := Option.bind_eq_some_iff.mp H
           obtain ⟨⟨t598, t599⟩, A420, H⟩ := H
           replace H : (if t595 = t599 then (laws_FnTables.j3 kj34 l0 t563 t564 t567 t568 t571 t592 t593 t594 t595 t598 ((t594.length : Int) != (t598.length : Int))) else (laws_FnTables.j3 kj34 l0 t563 t564 t567 t568 t571 t592 t593 t594 t595 t598 true)) = some r := H
           have A42 := zA A420
           clear A420
           have HC43 := zA H
           clear H
           go_upto_region 20 with (first | (go_at_call 18; (with_reducible refine (spec_DrawTablesOfWord.calls kj34 _ _ l0 t592 t593 _ ?side1 ?side2 A40.out).mono ?_); (case side1 => repeat (exact (Kd.C_below HR0.out HB.out))); (case side2 => exact HC0.out); rintro e w44 ⟨rfl, hb⟩; replace HO_4 := zA (Kd.N_below (by exact HO_4.out) hb); replace HO_6 := zA (Kd.N_below (by exact HO_6.out) hb); replace HB := zA (below_step zB hb); (try clear hb); (try clear hb2); (try clear hk); (try clear hi)) | (go_at_call 19; (with_reducible refine (impl_TablesOfWord.calls kj34 t592 t593 t594 t595 _ A41.out).mono ?_); rintro e w45 ⟨v596, rfl, ho0, hb⟩; have HO597 := zA (Kd.N_lower (Kd.N_mono (ok' := fun k_ => some k_ ≠ (.slice Ao9 t564.length co9 : Value).ownBlock ∧ some k_ ≠ (v569 : Value).ownBlock) (Kd.R_N (Kd.R_bound ho0)) (fun k_ hk_ => ⟨(Kd.fresh' (Kd.N_lt (by exact HO_4.out)) k_ hk_.2.1), (Kd.fresh' (Kd.N_lt (by exact HO_6.out)) k_ hk_.2.1)⟩)) (below_size zB)); replace HO_4 := zA (Kd.N_elder' (by exact HO_4.out) (Kd.R_base ho0) hb); replace HO_6 := zA (Kd.N_elder' (by exact HO_6.out) (Kd.R_base ho0) hb); replace HB := zA (below_step zB hb); (try clear hb); (try clear hb2); (try clear hk); (try clear hi); (try clear ho0)) | (go_at_call 20; (with_reducible refine (spec_TablesOfWord.calls kj34 t592 t593 t598 t599 _ A42.out).mono ?_); rintro e w46 ⟨v600, rfl, ho0, hb⟩; have HO601 := zA (Kd.N_lower (Kd.N_mono (ok' := fun k_ => some k_ ≠ (.slice Ao9 t564.length co9 : Value).ownBlock ∧ some k_ ≠ (v569 : Value).ownBlock ∧ some k_ ≠ (v596 : Value).ownBlock) (Kd.R_N (Kd.R_bound ho0)) (fun k_ hk_ => ⟨(Kd.fresh' (Kd.N_lt (by exact HO_4.out)) k_ hk_.2.1), (Kd.fresh' (Kd.N_lt (by exact HO_6.out)) k_ hk_.2.1), (Kd.fresh' (Kd.N_lt (by exact HO597.out)) k_ hk_.2.1)⟩)) (below_size zB)); replace HO_4 := zA (Kd.N_elder' (by exact HO_4.out) (Kd.R_base ho0) hb); replace HO_6 := zA (Kd.N_elder' (by exact HO_6.out) (Kd.R_base ho0) hb); replace HO597 := zA (Kd.N_elder' (by exact HO597.out) (Kd.R_base ho0) hb); replace HB := zA (below_step zB hb); (try clear hb); (try clear hb2); (try clear hk); (try clear hi); (try clear ho0)))

           (try simp only [Act.put, List.setIfInBounds_toArray, List.set])
           go_cut [163] (fun v163 wc => ∃ (kq : Nat) (x163_42 : Bool), v163 = .bool x163_42 ∧ Aside0 (laws_FnTables.j3 kq l0 t563 t564 t567 t568 t571 t592 t593 t594 t595 t598 x163_42 = some r) ∧ Aside0 (kq ≤ kj34) ∧ Aside0 (Kd.N (Kd.slice 45 (Kd.slice 2 (Kd.int .i64))) 27 wc w.heap.size (fun k_ => some k_ ≠ (v569 : Value).ownBlock ∧ some k_ ≠ (v596 : Value).ownBlock ∧ some k_ ≠ (v600 : Value).ownBlock) (.slice Ao9 t564.length co9) t564) ∧ Aside0 (Kd.N (Kd.slice 2 (Kd.int .i64)) 45 wc w.heap.size (fun k_ => some k_ ≠ ((.slice Ao9 t564.length co9) : Value).ownBlock ∧ some k_ ≠ (v596 : Value).ownBlock ∧ some k_ ≠ (v600 : Value).ownBlock) v569 t568) ∧ Aside0 (Kd.N (Kd.slice 45 (Kd.slice 2 (Kd.int .i64))) 27 wc w.heap.size (fun k_ => some k_ ≠ ((.slice Ao9 t564.length co9) : Value).ownBlock ∧ some k_ ≠ (v569 : Value).ownBlock ∧ some k_ ≠ (v600 : Value).ownBlock) v596 t594) ∧ Aside0 (Kd.N (Kd.slice 45 (Kd.slice 2 (Kd.int .i64))) 27 wc w.heap.size (fun k_ => some k_ ≠ ((.slice Ao9 t564.length co9) : Value).ownBlock ∧ some k_ ≠ (v569 : Value).ownBlock ∧ some k_ ≠ (v596 : Value).ownBlock) v600 t598) ∧ Aside0 (Below w.heap.size w wc))
           case first => as_aux_lemma =>
            have H := HC43.out
            clear HC43
            by_cases c47 : t595 = t599
            ·rw [if_pos c47] at H
             have c47b0 : (t595 == t599) = true := beq_iff_eq.mpr c47
             have c47b1 : (t595 != t599) = false := bne_eq_false_iff_eq.mpr c47
             clear c47
             (skip)
             have H' := zA H
             clear H
             obtain ⟨Ao48, co48, eo48⟩ := Kd.N_slice HO597.out
             subst eo48
             obtain ⟨Ao49, co49, eo49⟩ := Kd.N_slice HO601.out
             subst eo49
             go_wp2
             repeat (go_quiet (fail); try go_wp2)
             go_meet
             case rel => exact ⟨_, (((t594.length : Int) != (t598.length : Int))), (by rfl), H', ⟨by have := HJ6.out; have := HJ25.out; have := HJ34.out; omega⟩, ⟨by exact Kd.N_mono HO_4.out (fun _ hk => ⟨hk.1.1, ⟨hk.1.2, hk.2⟩⟩)⟩, ⟨by exact Kd.N_mono HO_6.out (fun _ hk => ⟨hk.1.1, ⟨hk.1.2, hk.2⟩⟩)⟩, ⟨by exact Kd.N_mono HO597.out (fun _ hk => ⟨hk.1.1, ⟨hk.1.2, hk.2⟩⟩)⟩, ⟨by exact HO601.out⟩, ⟨zB⟩⟩
            ·rw [if_neg c47] at H
             have c47b0 : (t595 == t599) = false := beq_eq_false_iff_ne.mpr c47
             have c47b1 : (t595 != t599) = true := bne_iff_ne.mpr c47
             (skip)
             have H' := zA H
             clear H
             go_wp2
             repeat (go_quiet (fail); try go_wp2)
             go_meet
             case rel => exact ⟨_, (true), (by rfl), H', ⟨by have := HJ6.out; have := HJ25.out; have := HJ34.out; omega⟩, ⟨by exact Kd.N_mono HO_4.out (fun _ hk => ⟨hk.1.1, ⟨hk.1.2, hk.2⟩⟩)⟩, ⟨by exact Kd.N_mono HO_6.out (fun _ hk => ⟨hk.1.1, ⟨hk.1.2, hk.2⟩⟩)⟩, ⟨by exact Kd.N_mono HO597.out (fun _ hk => ⟨hk.1.1, ⟨hk.1.2, hk.2⟩⟩)⟩, ⟨by exact HO601.out⟩, ⟨zB⟩⟩
           case rest => as_aux_lemma =>
            clear HC43
            obtain ⟨kq, x163_42, rfl, HA, HJ42, HO_4, HO_6, HO_23, HO_25, HB⟩ := hcut
            cases kq with
            | zero => exact absurd HA.out (by simp [laws_FnTables.j3])
            | succ kj42 =>
             have H := HA.out
             clear HA
             simp only [laws_FnTables.j3] at H
             by_cases c50 : x163_42 = true
             ·subst c50
              have H1 : (some false) = some r := by rw [if_pos rfl] at H; exact H
              clear H
              have H := H1
              clear H1
              obtain rfl := Option.some.inj H
              go_wp2
              repeat (go_quiet (fail); try go_wp2)
              go_ret
              exact ⟨by rfl, zB⟩
             ·replace c50 := Bool.eq_false_iff.mpr c50
              subst c50
              have H1 : (laws_FnTables.l0 kj42 l0 t563 t564 t567 t568 t571 t592 t593 t594 t595 t598 0) = some r := by rw [if_neg (show ¬ (false = true) by decide)] at H; exact H
              clear H
              have H := H1
              clear H1
              have H' := zA H
              clear H
              go_wp2
              repeat (go_quiet (fail); try go_wp2)
              go_loopg [27] kj42 (fun kq v27 w' => ∃ (x27_5 : Int), v27 = .int .i64 x27_5 ∧ Aside0 (laws_FnTables.l0 kq l0 t563 t564 t567 t568 t571 t592 t593 t594 t595 t598 x27_5 = some r) ∧ Aside0 (kq ≤ kj42) ∧ Aside0 (Kd.N (Kd.slice 45 (Kd.slice 2 (Kd.int .i64))) 27 w' w.heap.size (fun k_ => some k_ ≠ (v569 : Value).ownBlock ∧ some k_ ≠ (v596 : Value).ownBlock ∧ some k_ ≠ (v600 : Value).ownBlock) (.slice Ao9 t564.length co9) t564) ∧ Aside0 (Kd.N (Kd.slice 2 (Kd.int .i64)) 45 w' w.heap.size (fun k_ => some k_ ≠ ((.slice Ao9 t564.length co9) : Value).ownBlock ∧ some k_ ≠ (v596 : Value).ownBlock ∧ some k_ ≠ (v600 : Value).ownBlock) v569 t568) ∧ Aside0 (Kd.N (Kd.slice 45 (Kd.slice 2 (Kd.int .i64))) 27 w' w.heap.size (fun k_ => some k_ ≠ ((.slice Ao9 t564.length co9) : Value).ownBlock ∧ some k_ ≠ (v569 : Value).ownBlock ∧ some k_ ≠ (v600 : Value).ownBlock) v596 t594) ∧ Aside0 (Kd.N (Kd.slice 45 (Kd.slice 2 (Kd.int .i64))) 27 w' w.heap.size (fun k_ => some k_ ≠ ((.slice Ao9 t564.length co9) : Value).ownBlock ∧ some k_ ≠ (v569 : Value).ownBlock ∧ some k_ ≠ (v596 : Value).ownBlock) v600 t598) ∧ Aside0 (Below w.heap.size w w'))
              case atStart => exact ⟨(0), (by rfl), H', ⟨Nat.le_refl _⟩, ⟨by exact HO_4.out⟩, ⟨by exact HO_6.out⟩, ⟨by exact HO_23.out⟩, ⟨by exact HO_25.out⟩, ⟨zB⟩⟩
              case round => as_aux_lemma =>
               clear H'
               obtain ⟨x27_5, rfl, HA, HK5, HO_4, HO_6, HO_23, HO_25, HB⟩ := hrel
               cases gk with
               | zero => exact absurd HA.out (by simp [laws_FnTables.l0])
               | succ k5 =>
                have H := HA.out
                clear HA
                simp only [laws_FnTables.l0] at H
                by_cases c51 : x27_5 < (t594.length : Int)
                ·rw [if_pos c51] at H
                 have c51b0 : decide (x27_5 < (t594.length : Int)) = true := decide_eq_true c51
                 clear c51
                 by_cases c52 : 0 ≤ x27_5
                 ·rw [if_pos c52] at H
                  have c52b0 : decide (0 ≤ x27_5) = true := decide_eq_true c52
                  clear c52
                  by_cases c53 : x27_5 < (t598.length : Int)
                  ·rw [if_pos c53] at H
                   have c53b0 : decide (x27_5 < (t598.length : Int)) = true := decide_eq_true c53
                   clear c53
                   replace H := Option.bind_eq_some_iff.mp H
                   obtain ⟨t604, A540, H⟩ := H
                   replace H : (if t604 = true then (laws_FnTables.l0 k5 l0 t563 t564 t567 t568 t571 t592 t593 t594 t595 t598 (wrap64 (x27_5 + 1))) else (some false)) = some r := H
                   have A54 := zA A540
                   clear A540
                   by_cases c55 : t604 = true
                   ·subst c55
                    have H1 : (laws_FnTables.l0 k5 l0 t563 t564 t567 t568 t571 t592 t593 t594 t595 t598 (wrap64 (x27_5 + 1))) = some r := by rw [if_pos rfl] at H; exact H
                    clear H
                    have H := H1
                    clear H1
                    have H' := zA H
                    clear H
                    obtain ⟨Ao56, co56, eo56⟩ := Kd.N_slice HO_23.out
                    subst eo56
                    have p602 : 0 ≤ (x27_5 : Int) := zD
                    have q602 : x27_5 < (t594.length : Int) := zD
                    obtain ⟨ad602, A602_0, c602_0, e602, hx602_0, hl602_0, hi602_0⟩ := at_L4 (Kd.N_reads' HO_23.out).2.2 x27_5 p602 q602
                    cases e602
                    obtain ⟨ce602, hce602, hMe602, hcc602⟩ := Kd.N_get HO_23.out [] x27_5 p602 (by exact q602)
                    obtain ⟨ua602_0, uc602_0, rfl, ul602_0, ge602_0⟩ := Kd.FK_slice_open hMe602
                    have hv602_0 := hcc602 0 _ rfl
                    rw [Nat.add_zero, show ((Kd.slice 45 (Kd.slice 2 (Kd.int .i64)))).sz = 1 from rfl, Nat.mul_one] at hv602_0
                    replace hv602_0 := Option.some.inj (hv602_0.symm.trans hx602_0)
                    injection hv602_0 with hva_ hvn_ hvc_
                    rw [hva_] at ge602_0
                    rw [hvc_] at ul602_0
                    have HL602_0 := zA (show Kd.V (Kd.slice 2 (Kd.int .i64)) 45 _ w.heap.size _ _ (rd_L4 t594 x27_5) from Kd.V_mk ul602_0 ge602_0)
                    clear hva_ hvn_ hvc_ ge602_0 ul602_0
                    clear hcc602 hce602
                    have HR602_0 := zA hi602_0
                    have HC602_0 := zA hl602_0
                    clear hi602_0 hl602_0
                    replace p602 := eq_true p602
                    replace q602 := eq_true q602
                    obtain ⟨Ao57, co57, eo57⟩ := Kd.N_slice HO_25.out
                    subst eo57
                    have p603 : 0 ≤ (x27_5 : Int) := zD
                    have q603 : x27_5 < (t598.length : Int) := zD
                    obtain ⟨ad603, A603_0, c603_0, e603, hx603_0, hl603_0, hi603_0⟩ := at_L4 (Kd.N_reads' HO_25.out).2.2 x27_5 p603 q603
                    cases e603
                    obtain ⟨ce603, hce603, hMe603, hcc603⟩ := Kd.N_get HO_25.out [] x27_5 p603 (by exact q603)
                    obtain ⟨ua603_0, uc603_0, rfl, ul603_0, ge603_0⟩ := Kd.FK_slice_open hMe603
                    have hv603_0 := hcc603 0 _ rfl
                    rw [Nat.add_zero, show ((Kd.slice 45 (Kd.slice 2 (Kd.int .i64)))).sz = 1 from rfl, Nat.mul_one] at hv603_0
                    replace hv603_0 := Option.some.inj (hv603_0.symm.trans hx603_0)
                    injection hv603_0 with hva_ hvn_ hvc_
                    rw [hva_] at ge603_0
                    rw [hvc_] at ul603_0
                    have HL603_0 := zA (show Kd.V (Kd.slice 2 (Kd.int .i64)) 45 _ w.heap.size _ _ (rd_L4 t598 x27_5) from Kd.V_mk ul603_0 ge603_0)
                    clear hva_ hvn_ hvc_ ge603_0 ul603_0
                    clear hcc603 hce603
                    have HR603_0 := zA hi603_0
                    have HC603_0 := zA hl603_0
                    clear hi603_0 hl603_0
                    replace p603 := eq_true p603
                    replace q603 := eq_true q603
                    go_wp2_with (first | (go_at_call 10; (with_reducible refine (laws_lists9.calls k5 _ _ (rd_L4 t594 x27_5) _ _ (rd_L4 t598 x27_5) true _ ?side1 ?side2 ?side3 ?side4 A54.out).mono ?_); (case side1 => repeat (first | exact (by repeat (first | (with_reducible exact HR602_0.out) | (with_reducible refine Kd.C_alloc ?_ _) | (with_reducible refine Kd.C_drewN ?_ _) | (with_reducible refine Kd.C_drew ?_) | exact HR602_0.out)) | (with_reducible refine Kd.C_alloc ?_ _) | (with_reducible refine Kd.C_drewN ?_ _) | (with_reducible refine Kd.C_drew ?_))); (case side2 => exact HC602_0.out); (case side3 => repeat (first | exact (by repeat (first | (with_reducible exact HR603_0.out) | (with_reducible refine Kd.C_alloc ?_ _) | (with_reducible refine Kd.C_drewN ?_ _) | (with_reducible refine Kd.C_drew ?_) | exact HR603_0.out)) | (with_reducible refine Kd.C_alloc ?_ _) | (with_reducible refine Kd.C_drewN ?_ _) | (with_reducible refine Kd.C_drew ?_))); (case side4 => exact HC603_0.out); rintro e w' ⟨rfl, ⟨nd, rfl⟩⟩; (try first | exact ⟨rfl, _, World.drewN_drewN _ _ _⟩ | exact ⟨rfl, _, Eq.trans (World.drewN_drewN _ _ _) (congrArg (World.drewN _) (Nat.add_assoc _ _ _))⟩)))
                    repeat (go_quiet (first | (go_at_call 10; (with_reducible refine (laws_lists9.calls k5 _ _ (rd_L4 t594 x27_5) _ _ (rd_L4 t598 x27_5) true _ ?side1 ?side2 ?side3 ?side4 A54.out).mono ?_); (case side1 => repeat (exact (by repeat (first | (with_reducible exact HR602_0.out) | (with_reducible refine Kd.C_drewN ?_ _))))); (case side2 => exact HC602_0.out); (case side3 => repeat (exact (by repeat (first | (with_reducible exact HR603_0.out) | (with_reducible refine Kd.C_drewN ?_ _))))); (case side4 => exact HC603_0.out); rintro e w' ⟨rfl, ⟨nd, rfl⟩⟩; (try exact ⟨rfl, _, World.drewN_drewN _ _ _⟩))); try go_wp2_with (first | (go_at_call 10; (with_reducible refine (laws_lists9.calls k5 _ _ (rd_L4 t594 x27_5) _ _ (rd_L4 t598 x27_5) true _ ?side1 ?side2 ?side3 ?side4 A54.out).mono ?_); (case side1 => repeat (first | exact (by repeat (first | (with_reducible exact HR602_0.out) | (with_reducible refine Kd.C_alloc ?_ _) | (with_reducible refine Kd.C_drewN ?_ _) | (with_reducible refine Kd.C_drew ?_) | exact HR602_0.out)) | (with_reducible refine Kd.C_alloc ?_ _) | (with_reducible refine Kd.C_drewN ?_ _) | (with_reducible refine Kd.C_drew ?_))); (case side2 => exact HC602_0.out); (case side3 => repeat (first | exact (by repeat (first | (with_reducible exact HR603_0.out) | (with_reducible refine Kd.C_alloc ?_ _) | (with_reducible refine Kd.C_drewN ?_ _) | (with_reducible refine Kd.C_drew ?_) | exact HR603_0.out)) | (with_reducible refine Kd.C_alloc ?_ _) | (with_reducible refine Kd.C_drewN ?_ _) | (with_reducible refine Kd.C_drew ?_))); (case side4 => exact HC603_0.out); rintro e w' ⟨rfl, ⟨nd, rfl⟩⟩; (try first | exact ⟨rfl, _, World.drewN_drewN _ _ _⟩ | exact ⟨rfl, _, Eq.trans (World.drewN_drewN _ _ _) (congrArg (World.drewN _) (Nat.add_assoc _ _ _))⟩))))
                    go_roundg k5
                    case measure => have := HJ6.out; have := HJ25.out; have := HJ34.out; have := HJ42.out; have := HK5.out; omega
                    case rel => exact ⟨(wrap64 (x27_5 + 1)), (by rfl), H', ⟨by have := HJ6.out; have := HJ25.out; have := HJ34.out; have := HJ42.out; have := HK5.out; omega⟩, ⟨by (with_reducible repeat (apply Kd.N_drewN)); exact HO_4.out⟩, ⟨by (with_reducible repeat (apply Kd.N_drewN)); exact HO_6.out⟩, ⟨by (with_reducible repeat (apply Kd.N_drewN)); exact HO_23.out⟩, ⟨by (with_reducible repeat (apply Kd.N_drewN)); exact HO_25.out⟩, ⟨zB⟩⟩
                   ·replace c55 := Bool.eq_false_iff.mpr c55
                    subst c55
                    have H1 : (some false) = some r := by rw [if_neg (show ¬ (false = true) by decide)] at H; exact H
                    clear H
                    have H := H1
                    clear H1
                    obtain rfl := Option.some.inj H
                    obtain ⟨Ao58, co58, eo58⟩ := Kd.N_slice HO_23.out
                    subst eo58
                    have p602 : 0 ≤ (x27_5 : Int) := zD
                    have q602 : x27_5 < (t594.length : Int) := zD
                    obtain ⟨ad602, A602_0, c602_0, e602, hx602_0, hl602_0, hi602_0⟩ := at_L4 (Kd.N_reads' HO_23.out).2.2 x27_5 p602 q602
                    cases e602
                    obtain ⟨ce602, hce602, hMe602, hcc602⟩ := Kd.N_get HO_23.out [] x27_5 p602 (by exact q602)
                    obtain ⟨ua602_0, uc602_0, rfl, ul602_0, ge602_0⟩ := Kd.FK_slice_open hMe602
                    have hv602_0 := hcc602 0 _ rfl
                    rw [Nat.add_zero, show ((Kd.slice 45 (Kd.slice 2 (Kd.int .i64)))).sz = 1 from rfl, Nat.mul_one] at hv602_0
                    replace hv602_0 := Option.some.inj (hv602_0.symm.trans hx602_0)
                    injection hv602_0 with hva_ hvn_ hvc_
                    rw [hva_] at ge602_0
                    rw [hvc_] at ul602_0
                    have HL602_0 := zA (show Kd.V (Kd.slice 2 (Kd.int .i64)) 45 _ w.heap.size _ _ (rd_L4 t594 x27_5) from Kd.V_mk ul602_0 ge602_0)
                    clear hva_ hvn_ hvc_ ge602_0 ul602_0
                    clear hcc602 hce602
                    have HR602_0 := zA hi602_0
                    have HC602_0 := zA hl602_0
                    clear hi602_0 hl602_0
                    replace p602 := eq_true p602
                    replace q602 := eq_true q602
                    obtain ⟨Ao59, co59, eo59⟩ := Kd.N_slice HO_25.out
                    subst eo59
                    have p603 : 0 ≤ (x27_5 : Int) := zD
                    have q603 : x27_5 < (t598.length : Int) := zD
                    obtain ⟨ad603, A603_0, c603_0, e603, hx603_0, hl603_0, hi603_0⟩ := at_L4 (Kd.N_reads' HO_25.out).2.2 x27_5 p603 q603
                    cases e603
                    obtain ⟨ce603, hce603, hMe603, hcc603⟩ := Kd.N_get HO_25.out [] x27_5 p603 (by exact q603)
                    obtain ⟨ua603_0, uc603_0, rfl, ul603_0, ge603_0⟩ := Kd.FK_slice_open hMe603
                    have hv603_0 := hcc603 0 _ rfl
                    rw [Nat.add_zero, show ((Kd.slice 45 (Kd.slice 2 (Kd.int .i64)))).sz = 1 from rfl, Nat.mul_one] at hv603_0
                    replace hv603_0 := Option.some.inj (hv603_0.symm.trans hx603_0)
                    injection hv603_0 with hva_ hvn_ hvc_
                    rw [hva_] at ge603_0
                    rw [hvc_] at ul603_0
                    have HL603_0 := zA (show Kd.V (Kd.slice 2 (Kd.int .i64)) 45 _ w.heap.size _ _ (rd_L4 t598 x27_5) from Kd.V_mk ul603_0 ge603_0)
                    clear hva_ hvn_ hvc_ ge603_0 ul603_0
                    clear hcc603 hce603
                    have HR603_0 := zA hi603_0
                    have HC603_0 := zA hl603_0
                    clear hi603_0 hl603_0
                    replace p603 := eq_true p603
                    replace q603 := eq_true q603
                    go_wp2_with (first | (go_at_call 10; (with_reducible refine (laws_lists9.calls k5 _ _ (rd_L4 t594 x27_5) _ _ (rd_L4 t598 x27_5) false _ ?side1 ?side2 ?side3 ?side4 A54.out).mono ?_); (case side1 => repeat (first | exact (by repeat (first | (with_reducible exact HR602_0.out) | (with_reducible refine Kd.C_alloc ?_ _) | (with_reducible refine Kd.C_drewN ?_ _) | (with_reducible refine Kd.C_drew ?_) | exact HR602_0.out)) | (with_reducible refine Kd.C_alloc ?_ _) | (with_reducible refine Kd.C_drewN ?_ _) | (with_reducible refine Kd.C_drew ?_))); (case side2 => exact HC602_0.out); (case side3 => repeat (first | exact (by repeat (first | (with_reducible exact HR603_0.out) | (with_reducible refine Kd.C_alloc ?_ _) | (with_reducible refine Kd.C_drewN ?_ _) | (with_reducible refine Kd.C_drew ?_) | exact HR603_0.out)) | (with_reducible refine Kd.C_alloc ?_ _) | (with_reducible refine Kd.C_drewN ?_ _) | (with_reducible refine Kd.C_drew ?_))); (case side4 => exact HC603_0.out); rintro e w' ⟨rfl, ⟨nd, rfl⟩⟩; (try first | exact ⟨rfl, _, World.drewN_drewN _ _ _⟩ | exact ⟨rfl, _, Eq.trans (World.drewN_drewN _ _ _) (congrArg (World.drewN _) (Nat.add_assoc _ _ _))⟩)))
                    repeat (go_quiet (first | (go_at_call 10; (with_reducible refine (laws_lists9.calls k5 _ _ (rd_L4 t594 x27_5) _ _ (rd_L4 t598 x27_5) false _ ?side1 ?side2 ?side3 ?side4 A54.out).mono ?_); (case side1 => repeat (exact (by repeat (first | (with_reducible exact HR602_0.out) | (with_reducible refine Kd.C_drewN ?_ _))))); (case side2 => exact HC602_0.out); (case side3 => repeat (exact (by repeat (first | (with_reducible exact HR603_0.out) | (with_reducible refine Kd.C_drewN ?_ _))))); (case side4 => exact HC603_0.out); rintro e w' ⟨rfl, ⟨nd, rfl⟩⟩; (try exact ⟨rfl, _, World.drewN_drewN _ _ _⟩))); try go_wp2_with (first | (go_at_call 10; (with_reducible refine (laws_lists9.calls k5 _ _ (rd_L4 t594 x27_5) _ _ (rd_L4 t598 x27_5) false _ ?side1 ?side2 ?side3 ?side4 A54.out).mono ?_); (case side1 => repeat (first | exact (by repeat (first | (with_reducible exact HR602_0.out) | (with_reducible refine Kd.C_alloc ?_ _) | (with_reducible refine Kd.C_drewN ?_ _) | (with_reducible refine Kd.C_drew ?_) | exact HR602_0.out)) | (with_reducible refine Kd.C_alloc ?_ _) | (with_reducible refine Kd.C_drewN ?_ _) | (with_reducible refine Kd.C_drew ?_))); (case side2 => exact HC602_0.out); (case side3 => repeat (first | exact (by repeat (first | (with_reducible exact HR603_0.out) | (with_reducible refine Kd.C_alloc ?_ _) | (with_reducible refine Kd.C_drewN ?_ _) | (with_reducible refine Kd.C_drew ?_) | exact HR603_0.out)) | (with_reducible refine Kd.C_alloc ?_ _) | (with_reducible refine Kd.C_drewN ?_ _) | (with_reducible refine Kd.C_drew ?_))); (case side4 => exact HC603_0.out); rintro e w' ⟨rfl, ⟨nd, rfl⟩⟩; (try first | exact ⟨rfl, _, World.drewN_drewN _ _ _⟩ | exact ⟨rfl, _, Eq.trans (World.drewN_drewN _ _ _) (congrArg (World.drewN _) (Nat.add_assoc _ _ _))⟩))))
                    go_ret
                    exact ⟨by rfl, zB⟩
                  ·rw [if_neg c53] at H
                   exact absurd H (by simp)
                 ·rw [if_neg c52] at H
                  exact absurd H (by simp)
                ·rw [if_neg c51] at H
                 have c51b0 : decide (x27_5 < (t594.length : Int)) = false := decide_eq_false c51
                 clear c51
                 replace H := Option.bind_eq_some_iff.mp H
                 obtain ⟨⟨t605, t606, t609, t610⟩, A600, H⟩ := H
                 replace H : ((impl_TableCommutator.f k5 t605 t606 t609 t610).bind fun bt611 => ((spec_TableCommutator.f k5 t605 t606 t609 t610).bind fun bt615 => (if bt611.2 = bt615.2 then ((laws_lists9.f k5 bt611.1 bt615.1).bind fun t619 => (laws_FnTables.j5 k5 t563 t564 t567 t568 t571 t592 t593 t594 t595 (!t619))) else (laws_FnTables.j5 k5 t563 t564 t567 t568 t571 t592 t593 t594 t595 true)))) = some r := H
                 have A60 := zA A600
                 clear A600
                 replace H := Option.bind_eq_some_iff.mp H
                 obtain ⟨⟨t611, t614⟩, A610, H⟩ := H
                 replace H : ((spec_TableCommutator.f k5 t605 t606 t609 t610).bind fun bt615 => (if t614 = bt615.2 then ((laws_lists9.f k5 t611 bt615.1).bind fun t619 => (laws_FnTables.j5 k5 t563 t564 t567 t568 t571 t592 t593 t594 t595 (!t619))) else (laws_FnTables.j5 k5 t563 t564 t567 t568 t571 t592 t593 t594 t595 true))) = some r := H
                 have A61 := zA A610
                 clear A610
                 replace H := Option.bind_eq_some_iff.mp H
                 obtain ⟨⟨t615, t616⟩, A620, H⟩ := H
                 replace H : (if t614 = t616 then ((laws_lists9.f k5 t611 t615).bind fun t619 => (laws_FnTables.j5 k5 t563 t564 t567 t568 t571 t592 t593 t594 t595 (!t619))) else (laws_FnTables.j5 k5 t563 t564 t567 t568 t571 t592 t593 t594 t595 true)) = some r := H
                 have A62 := zA A620
                 clear A620
                 have HC63 := zA H
                 clear H
                 obtain ⟨Ao64, co64, eo64⟩ := Kd.N_slice HO_23.out
                 subst eo64
                 go_upto_region 30 with (first | (go_at_call 21; (with_reducible refine (spec_DrawTableCommutator.calls k5 _ _ l0 t605 t606 t609 t610 _ ?side1 ?side2 A60.out).mono ?_); (case side1 => repeat (exact (Kd.C_below HR0.out HB.out))); (case side2 => exact HC0.out); rintro e w65 ⟨v607, rfl, ho0, hb⟩; have HO608 := zA (Kd.N_lower (Kd.N_mono (ok' := fun k_ => some k_ ≠ (.slice Ao9 t564.length co9 : Value).ownBlock ∧ some k_ ≠ (v569 : Value).ownBlock ∧ some k_ ≠ (.slice Ao64 t594.length co64 : Value).ownBlock ∧ some k_ ≠ (v600 : Value).ownBlock) ho0 (fun k_ hk_ => ⟨(Kd.fresh' (Kd.N_lt (by exact HO_4.out)) k_ hk_), (Kd.fresh' (Kd.N_lt (by exact HO_6.out)) k_ hk_), (Kd.fresh' (Kd.N_lt (by exact HO_23.out)) k_ hk_), (Kd.fresh' (Kd.N_lt (by exact HO_25.out)) k_ hk_)⟩)) (below_size zB)); replace HO_4 := zA (Kd.N_elder' (by exact HO_4.out) (Kd.N_base ho0) hb); replace HO_6 := zA (Kd.N_elder' (by exact HO_6.out) (Kd.N_base ho0) hb); replace HO_23 := zA (Kd.N_elder' (by exact HO_23.out) (Kd.N_base ho0) hb); replace HO_25 := zA (Kd.N_elder' (by exact HO_25.out) (Kd.N_base ho0) hb); replace HB := zA (below_step zB hb); (try clear hb); (try clear hb2); (try clear hk); (try clear hi); (try clear ho0); obtain ⟨Ao66, co66, eo66⟩ := Kd.N_slice HO608.out; subst eo66) | (go_at_call 22; (with_reducible refine (impl_TableCommutator.calls k5 t605 _ _ t606 t609 t610 t611 t614 _ ?side1 ?side2 A61.out).mono ?_); (case side1 => repeat (exact (Kd.N_reads' HO608.out).2.2)); (case side2 => exact (Kd.N_reads' HO608.out).2.1); rintro e w67 ⟨v612, rfl, ho0, hb⟩; have HO613 := zA (Kd.N_lower (Kd.N_mono (ok' := fun k_ => some k_ ≠ (.slice Ao9 t564.length co9 : Value).ownBlock ∧ some k_ ≠ (v569 : Value).ownBlock ∧ some k_ ≠ (.slice Ao64 t594.length co64 : Value).ownBlock ∧ some k_ ≠ (v600 : Value).ownBlock ∧ some k_ ≠ (.slice Ao66 t606.length co66 : Value).ownBlock) ho0 (fun k_ hk_ => ⟨(Kd.fresh' (Kd.N_lt (by exact HO_4.out)) k_ hk_), (Kd.fresh' (Kd.N_lt (by exact HO_6.out)) k_ hk_), (Kd.fresh' (Kd.N_lt (by exact HO_23.out)) k_ hk_), (Kd.fresh' (Kd.N_lt (by exact HO_25.out)) k_ hk_), (Kd.fresh' (Kd.N_lt (by exact HO608.out)) k_ hk_)⟩)) (below_size zB)); replace HO_4 := zA (Kd.N_elder' (by exact HO_4.out) (Kd.N_base ho0) hb); replace HO_6 := zA (Kd.N_elder' (by exact HO_6.out) (Kd.N_base ho0) hb); replace HO_23 := zA (Kd.N_elder' (by exact HO_23.out) (Kd.N_base ho0) hb); replace HO_25 := zA (Kd.N_elder' (by exact HO_25.out) (Kd.N_base ho0) hb); replace HO608 := zA (Kd.N_elder' (by exact HO608.out) (Kd.N_base ho0) hb); replace HB := zA (below_step zB hb); (try clear hb); (try clear hb2); (try clear hk); (try clear hi); (try clear ho0)) | (go_at_call 23; (with_reducible refine (spec_TableCommutator.calls k5 t605 _ _ t606 t609 t610 t615 t616 _ ?side1 ?side2 A62.out).mono ?_); (case side1 => repeat (exact (Kd.N_reads' HO608.out).2.2)); (case side2 => exact (Kd.N_reads' HO608.out).2.1); rintro e w68 ⟨v617, rfl, ho0, hb⟩; have HO618 := zA (Kd.N_lower (Kd.N_mono (ok' := fun k_ => some k_ ≠ (.slice Ao9 t564.length co9 : Value).ownBlock ∧ some k_ ≠ (v569 : Value).ownBlock ∧ some k_ ≠ (.slice Ao64 t594.length co64 : Value).ownBlock ∧ some k_ ≠ (v600 : Value).ownBlock ∧ some k_ ≠ (.slice Ao66 t606.length co66 : Value).ownBlock ∧ some k_ ≠ (v612 : Value).ownBlock) (Kd.S_N (Kd.S_bound ho0)) (fun k_ hk_ => ⟨(Kd.fresh' (Kd.N_lt (by exact HO_4.out)) k_ hk_.2.1), (Kd.fresh' (Kd.N_lt (by exact HO_6.out)) k_ hk_.2.1), (Kd.fresh' (Kd.N_lt (by exact HO_23.out)) k_ hk_.2.1), (Kd.fresh' (Kd.N_lt (by exact HO_25.out)) k_ hk_.2.1), (Kd.fresh' (Kd.N_lt (by exact HO608.out)) k_ hk_.2.1), (Kd.fresh' (Kd.N_lt (by exact HO613.out)) k_ hk_.2.1)⟩)) (below_size zB)); replace HO_4 := zA (Kd.N_elder' (by exact HO_4.out) (Kd.N_base (Kd.S_N (Kd.S_bound ho0))) hb); replace HO_6 := zA (Kd.N_elder' (by exact HO_6.out) (Kd.N_base (Kd.S_N (Kd.S_bound ho0))) hb); replace HO_23 := zA (Kd.N_elder' (by exact HO_23.out) (Kd.N_base (Kd.S_N (Kd.S_bound ho0))) hb); replace HO_25 := zA (Kd.N_elder' (by exact HO_25.out) (Kd.N_base (Kd.S_N (Kd.S_bound ho0))) hb); replace HO608 := zA (Kd.N_elder' (by exact HO608.out) (Kd.N_base (Kd.S_N (Kd.S_bound ho0))) hb); replace HO613 := zA (Kd.N_elder' (by exact HO613.out) (Kd.N_base (Kd.S_N (Kd.S_bound ho0))) hb); replace HB := zA (below_step zB hb); (try clear hb); (try clear hb2); (try clear hk); (try clear hi); (try clear ho0)))

                 (try simp only [Act.put, List.setIfInBounds_toArray, List.set])
                 go_cut [211] (fun v211 wc => ∃ (kq : Nat) (x211_62 : Bool), v211 = .bool x211_62 ∧ Aside0 (laws_FnTables.j5 kq t563 t564 t567 t568 t571 t592 t593 t594 t595 x211_62 = some r) ∧ Aside0 (kq ≤ k5) ∧ Aside0 (Kd.N (Kd.slice 45 (Kd.slice 2 (Kd.int .i64))) 27 wc w.heap.size (fun k_ => some k_ ≠ (v569 : Value).ownBlock ∧ some k_ ≠ ((.slice Ao64 t594.length co64) : Value).ownBlock) (.slice Ao9 t564.length co9) t564) ∧ Aside0 (Kd.N (Kd.slice 2 (Kd.int .i64)) 45 wc w.heap.size (fun k_ => some k_ ≠ ((.slice Ao9 t564.length co9) : Value).ownBlock ∧ some k_ ≠ ((.slice Ao64 t594.length co64) : Value).ownBlock) v569 t568) ∧ Aside0 (Kd.N (Kd.slice 45 (Kd.slice 2 (Kd.int .i64))) 27 wc w.heap.size (fun k_ => some k_ ≠ ((.slice Ao9 t564.length co9) : Value).ownBlock ∧ some k_ ≠ (v569 : Value).ownBlock) (.slice Ao64 t594.length co64) t594) ∧ Aside0 (Below w.heap.size w wc))
                 case first => as_aux_lemma =>
                  have H := HC63.out
                  clear HC63
                  by_cases c69 : t614 = t616
                  ·rw [if_pos c69] at H
                   have c69b0 : (t614 == t616) = true := beq_iff_eq.mpr c69
                   have c69b1 : (t614 != t616) = false := bne_eq_false_iff_eq.mpr c69
                   clear c69
                   (skip)
                   replace H := Option.bind_eq_some_iff.mp H
                   obtain ⟨t619, A700, H⟩ := H
                   replace H : (laws_FnTables.j5 k5 t563 t564 t567 t568 t571 t592 t593 t594 t595 (!t619)) = some r := H
                   have A70 := zA A700
                   clear A700
                   have H' := zA H
                   clear H
                   obtain ⟨Ao71, co71, eo71⟩ := Kd.N_slice HO613.out
                   subst eo71
                   obtain ⟨Ao72, co72, eo72⟩ := Kd.N_slice HO618.out
                   subst eo72
                   go_wp2_with (first | (go_at_call 10; (with_reducible refine (laws_lists9.calls k5 _ _ t611 _ _ t615 t619 _ ?side1 ?side2 ?side3 ?side4 A70.out).mono ?_); (case side1 => repeat (exact (Kd.N_reads' HO613.out).2.2)); (case side2 => exact (Kd.N_reads' HO613.out).2.1); (case side3 => repeat (exact (Kd.N_reads' HO618.out).2.2)); (case side4 => exact (Kd.N_reads' HO618.out).2.1); rintro e w' ⟨rfl, ⟨nd, rfl⟩⟩; (try first | exact ⟨rfl, _, World.drewN_drewN _ _ _⟩ | exact ⟨rfl, _, Eq.trans (World.drewN_drewN _ _ _) (congrArg (World.drewN _) (Nat.add_assoc _ _ _))⟩)))

                   go_meet
                   case rel => exact ⟨_, (!t619), (by rfl), H', ⟨by have := HJ6.out; have := HJ25.out; have := HJ34.out; have := HJ42.out; have := HK5.out; omega⟩, ⟨by (with_reducible repeat (apply Kd.N_drewN)); exact Kd.N_mono HO_4.out (fun _ hk => ⟨hk.1.1.1.1, hk.1.1.1.2.1⟩)⟩, ⟨by (with_reducible repeat (apply Kd.N_drewN)); exact Kd.N_mono HO_6.out (fun _ hk => ⟨hk.1.1.1.1, hk.1.1.1.2.1⟩)⟩, ⟨by (with_reducible repeat (apply Kd.N_drewN)); exact Kd.N_mono HO_23.out (fun _ hk => ⟨hk.1.1.1.1, hk.1.1.1.2.1⟩)⟩, ⟨zB⟩⟩
                  ·rw [if_neg c69] at H
                   have c69b0 : (t614 == t616) = false := beq_eq_false_iff_ne.mpr c69
                   have c69b1 : (t614 != t616) = true := bne_iff_ne.mpr c69
                   (skip)
                   have H' := zA H
                   clear H
                   go_wp2
                   repeat (go_quiet (fail); try go_wp2)
                   go_meet
                   case rel => exact ⟨_, (true), (by rfl), H', ⟨by have := HJ6.out; have := HJ25.out; have := HJ34.out; have := HJ42.out; have := HK5.out; omega⟩, ⟨by exact Kd.N_mono HO_4.out (fun _ hk => ⟨hk.1.1.1.1, hk.1.1.1.2.1⟩)⟩, ⟨by exact Kd.N_mono HO_6.out (fun _ hk => ⟨hk.1.1.1.1, hk.1.1.1.2.1⟩)⟩, ⟨by exact Kd.N_mono HO_23.out (fun _ hk => ⟨hk.1.1.1.1, hk.1.1.1.2.1⟩)⟩, ⟨zB⟩⟩
                 case rest => as_aux_lemma =>
                  clear HC63
                  obtain ⟨kq, x211_62, rfl, HA, HJ62, HO_4, HO_6, HO_23, HB⟩ := hcut
                  cases kq with
                  | zero => exact absurd HA.out (by simp [laws_FnTables.j5])
                  | succ kj62 =>
                   have H := HA.out
                   clear HA
                   simp only [laws_FnTables.j5] at H
                   by_cases c73 : x211_62 = true
                   ·subst c73
                    have H1 : (some false) = some r := by rw [if_pos rfl] at H; exact H
                    clear H
                    have H := H1
                    clear H1
                    obtain rfl := Option.some.inj H
                    go_wp2
                    repeat (go_quiet (fail); try go_wp2)
                    go_ret
                    exact ⟨by rfl, zB⟩
                   ·replace c73 := Bool.eq_false_iff.mpr c73
                    subst c73
                    have H1 : ((impl_TurnTables.f).bind fun t620 => ((spec_TurnTables.f).bind fun t623 => (if (t620.length : Int) = 2 then (if 0 < (t620.length : Int) then (if 0 < (t623.length : Int) then ((laws_lists9.f kj62 (rd_L4 t620 0) (rd_L4 t623 0)).bind fun t628 => (if t628 = true then (if 1 < (t620.length : Int) then (if 1 < (t623.length : Int) then ((laws_lists9.f kj62 (rd_L4 t620 1) (rd_L4 t623 1)).bind fun t631 => (laws_FnTables.j6 kj62 t563 t564 t567 t568 t571 t592 t593 t594 t595 (!t631))) else (none)) else (none)) else (laws_FnTables.j6 kj62 t563 t564 t567 t568 t571 t592 t593 t594 t595 true))) else (none)) else (none)) else (laws_FnTables.j6 kj62 t563 t564 t567 t568 t571 t592 t593 t594 t595 true)))) = some r := by rw [if_neg (show ¬ (false = true) by decide)] at H; exact H
                    clear H
                    have H := H1
                    clear H1
                    replace H := Option.bind_eq_some_iff.mp H
                    obtain ⟨t620, A740, H⟩ := H
                    replace H : ((spec_TurnTables.f).bind fun t623 => (if (t620.length : Int) = 2 then (if 0 < (t620.length : Int) then (if 0 < (t623.length : Int) then ((laws_lists9.f kj62 (rd_L4 t620 0) (rd_L4 t623 0)).bind fun t628 => (if t628 = true then (if 1 < (t620.length : Int) then (if 1 < (t623.length : Int) then ((laws_lists9.f kj62 (rd_L4 t620 1) (rd_L4 t623 1)).bind fun t631 => (laws_FnTables.j6 kj62 t563 t564 t567 t568 t571 t592 t593 t594 t595 (!t631))) else (none)) else (none)) else (laws_FnTables.j6 kj62 t563 t564 t567 t568 t571 t592 t593 t594 t595 true))) else (none)) else (none)) else (laws_FnTables.j6 kj62 t563 t564 t567 t568 t571 t592 t593 t594 t595 true))) = some r := H
                    have A74 := zA A740
                    clear A740
                    replace H := Option.bind_eq_some_iff.mp H
                    obtain ⟨t623, A750, H⟩ := H
                    replace H : (if (t620.length : Int) = 2 then (if 0 < (t620.length : Int) then (if 0 < (t623.length : Int) then ((laws_lists9.f kj62 (rd_L4 t620 0) (rd_L4 t623 0)).bind fun t628 => (if t628 = true then (if 1 < (t620.length : Int) then (if 1 < (t623.length : Int) then ((laws_lists9.f kj62 (rd_L4 t620 1) (rd_L4 t623 1)).bind fun t631 => (laws_FnTables.j6 kj62 t563 t564 t567 t568 t571 t592 t593 t594 t595 (!t631))) else (none)) else (none)) else (laws_FnTables.j6 kj62 t563 t564 t567 t568 t571 t592 t593 t594 t595 true))) else (none)) else (none)) else (laws_FnTables.j6 kj62 t563 t564 t567 t568 t571 t592 t593 t594 t595 true)) = some r := H
                    have A75 := zA A750
                    clear A750
                    have HC76 := zA H
                    clear H
                    go_upto_region 33 with (first | (go_at_call 24; (with_reducible refine (impl_TurnTables.calls  t620 _ A74.out).mono ?_); rintro e w77 ⟨v621, rfl, ho0, hb⟩; have HO622 := zA (Kd.N_lower (Kd.N_mono (ok' := fun k_ => some k_ ≠ (.slice Ao9 t564.length co9 : Value).ownBlock ∧ some k_ ≠ (v569 : Value).ownBlock ∧ some k_ ≠ (.slice Ao64 t594.length co64 : Value).ownBlock) ho0 (fun k_ hk_ => ⟨(Kd.fresh' (Kd.N_lt (by exact HO_4.out)) k_ hk_), (Kd.fresh' (Kd.N_lt (by exact HO_6.out)) k_ hk_), (Kd.fresh' (Kd.N_lt (by exact HO_23.out)) k_ hk_)⟩)) (below_size zB)); replace HO_4 := zA (Kd.N_elder' (by exact HO_4.out) (Kd.N_base ho0) hb); replace HO_6 := zA (Kd.N_elder' (by exact HO_6.out) (Kd.N_base ho0) hb); replace HO_23 := zA (Kd.N_elder' (by exact HO_23.out) (Kd.N_base ho0) hb); replace HB := zA (below_step zB hb); (try clear hb); (try clear hb2); (try clear hk); (try clear hi); (try clear ho0)) | (go_at_call 25; (with_reducible refine (spec_TurnTables.calls  t623 _ A75.out).mono ?_); rintro e w78 ⟨v624, rfl, ho0, hb⟩; have HO625 := zA (Kd.N_lower (Kd.N_mono (ok' := fun k_ => some k_ ≠ (.slice Ao9 t564.length co9 : Value).ownBlock ∧ some k_ ≠ (v569 : Value).ownBlock ∧ some k_ ≠ (.slice Ao64 t594.length co64 : Value).ownBlock ∧ some k_ ≠ (v621 : Value).ownBlock) ho0 (fun k_ hk_ => ⟨(Kd.fresh' (Kd.N_lt (by exact HO_4.out)) k_ hk_), (Kd.fresh' (Kd.N_lt (by exact HO_6.out)) k_ hk_), (Kd.fresh' (Kd.N_lt (by exact HO_23.out)) k_ hk_), (Kd.fresh' (Kd.N_lt (by exact HO622.out)) k_ hk_)⟩)) (below_size zB)); replace HO_4 := zA (Kd.N_elder' (by exact HO_4.out) (Kd.N_base ho0) hb); replace HO_6 := zA (Kd.N_elder' (by exact HO_6.out) (Kd.N_base ho0) hb); replace HO_23 := zA (Kd.N_elder' (by exact HO_23.out) (Kd.N_base ho0) hb); replace HO622 := zA (Kd.N_elder' (by exact HO622.out) (Kd.N_base ho0) hb); replace HB := zA (below_step zB hb); (try clear hb); (try clear hb2); (try clear hk); (try clear hi); (try clear ho0)))

                    (try simp only [Act.put, List.setIfInBounds_toArray, List.set])
                    go_cut [236] (fun v236 wc => ∃ (kq : Nat) (x236_75 : Bool), v236 = .bool x236_75 ∧ Aside0 (laws_FnTables.j6 kq t563 t564 t567 t568 t571 t592 t593 t594 t595 x236_75 = some r) ∧ Aside0 (kq ≤ kj62) ∧ Aside0 (Kd.N (Kd.slice 45 (Kd.slice 2 (Kd.int .i64))) 27 wc w.heap.size (fun k_ => some k_ ≠ (v569 : Value).ownBlock ∧ some k_ ≠ ((.slice Ao64 t594.length co64) : Value).ownBlock) (.slice Ao9 t564.length co9) t564) ∧ Aside0 (Kd.N (Kd.slice 2 (Kd.int .i64)) 45 wc w.heap.size (fun k_ => some k_ ≠ ((.slice Ao9 t564.length co9) : Value).ownBlock ∧ some k_ ≠ ((.slice Ao64 t594.length co64) : Value).ownBlock) v569 t568) ∧ Aside0 (Kd.N (Kd.slice 45 (Kd.slice 2 (Kd.int .i64))) 27 wc w.heap.size (fun k_ => some k_ ≠ ((.slice Ao9 t564.length co9) : Value).ownBlock ∧ some k_ ≠ (v569 : Value).ownBlock) (.slice Ao64 t594.length co64) t594) ∧ Aside0 (Below w.heap.size w wc))
                    case first => as_aux_lemma =>
                     have H := HC76.out
                     clear HC76
                     by_cases c79 : (t620.length : Int) = 2
                     ·rw [if_pos c79] at H
                      have c79b0 : ((t620.length : Int) == 2) = true := beq_iff_eq.mpr c79
                      have c79b1 : ((t620.length : Int) != 2) = false := bne_eq_false_iff_eq.mpr c79
                      clear c79
                      (skip)
                      by_cases c80 : 0 < (t620.length : Int)
                      ·rw [if_pos c80] at H
                       have c80b0 : decide (0 < (t620.length : Int)) = true := decide_eq_true c80
                       have c80b1 : decide (0 < t620.length) = true := decide_eq_true (by omega)
                       clear c80
                       by_cases c81 : 0 < (t623.length : Int)
                       ·rw [if_pos c81] at H
                        have c81b0 : decide (0 < (t623.length : Int)) = true := decide_eq_true c81
                        have c81b1 : decide (0 < t623.length) = true := decide_eq_true (by omega)
                        clear c81
                        replace H := Option.bind_eq_some_iff.mp H
                        obtain ⟨t628, A820, H⟩ := H
                        replace H : (if t628 = true then (if 1 < (t620.length : Int) then (if 1 < (t623.length : Int) then ((laws_lists9.f kj62 (rd_L4 t620 1) (rd_L4 t623 1)).bind fun t631 => (laws_FnTables.j6 kj62 t563 t564 t567 t568 t571 t592 t593 t594 t595 (!t631))) else (none)) else (none)) else (laws_FnTables.j6 kj62 t563 t564 t567 t568 t571 t592 t593 t594 t595 true)) = some r := H
                        have A82 := zA A820
                        clear A820
                        by_cases c83 : t628 = true
                        ·subst c83
                         have H1 : (if 1 < (t620.length : Int) then (if 1 < (t623.length : Int) then ((laws_lists9.f kj62 (rd_L4 t620 1) (rd_L4 t623 1)).bind fun t631 => (laws_FnTables.j6 kj62 t563 t564 t567 t568 t571 t592 t593 t594 t595 (!t631))) else (none)) else (none)) = some r := by rw [if_pos rfl] at H; exact H
                         clear H
                         have H := H1
                         clear H1
                         by_cases c84 : 1 < (t620.length : Int)
                         ·rw [if_pos c84] at H
                          have c84b0 : decide (1 < (t620.length : Int)) = true := decide_eq_true c84
                          have c84b1 : decide (1 < t620.length) = true := decide_eq_true (by omega)
                          clear c84
                          by_cases c85 : 1 < (t623.length : Int)
                          ·rw [if_pos c85] at H
                           have c85b0 : decide (1 < (t623.length : Int)) = true := decide_eq_true c85
                           have c85b1 : decide (1 < t623.length) = true := decide_eq_true (by omega)
                           clear c85
                           replace H := Option.bind_eq_some_iff.mp H
                           obtain ⟨t631, A860, H⟩ := H
                           replace H : (laws_FnTables.j6 kj62 t563 t564 t567 t568 t571 t592 t593 t594 t595 (!t631)) = some r := H
                           have A86 := zA A860
                           clear A860
                           have H' := zA H
                           clear H
                           obtain ⟨Ao87, co87, eo87⟩ := Kd.N_slice HO622.out
                           subst eo87
                           have p626 : 0 ≤ (0 : Int) := (by omega)
                           have q626 : 0 < (t620.length : Int) := zD
                           obtain ⟨ad626, A626_0, c626_0, e626, hx626_0, hl626_0, hi626_0⟩ := at_L4 (Kd.N_reads' HO622.out).2.2 0 p626 q626
                           cases e626
                           obtain ⟨ce626, hce626, hMe626, hcc626⟩ := Kd.N_get HO622.out [] 0 p626 (by exact q626)
                           obtain ⟨ua626_0, uc626_0, rfl, ul626_0, ge626_0⟩ := Kd.FK_slice_open hMe626
                           have hv626_0 := hcc626 0 _ rfl
                           rw [Nat.add_zero, show ((Kd.slice 45 (Kd.slice 2 (Kd.int .i64)))).sz = 1 from rfl, Nat.mul_one] at hv626_0
                           replace hv626_0 := Option.some.inj (hv626_0.symm.trans hx626_0)
                           injection hv626_0 with hva_ hvn_ hvc_
                           rw [hva_] at ge626_0
                           rw [hvc_] at ul626_0
                           have HL626_0 := zA (show Kd.V (Kd.slice 2 (Kd.int .i64)) 45 _ w.heap.size _ _ (rd_L4 t620 0) from Kd.V_mk ul626_0 ge626_0)
                           clear hva_ hvn_ hvc_ ge626_0 ul626_0
                           clear hcc626 hce626
                           have qi626 : (0 < t620.length) = True := eq_true (by omega)
                           (try rw [show ((0 : Int)).toNat = 0 from rfl] at hx626_0)
                           (try rw [Addr.add_zero'] at hx626_0)
                           have HR626_0 := zA hi626_0
                           have HC626_0 := zA hl626_0
                           clear hi626_0 hl626_0
                           replace p626 := eq_true p626
                           replace q626 := eq_true q626
                           obtain ⟨Ao88, co88, eo88⟩ := Kd.N_slice HO625.out
                           subst eo88
                           have p627 : 0 ≤ (0 : Int) := (by omega)
                           have q627 : 0 < (t623.length : Int) := zD
                           obtain ⟨ad627, A627_0, c627_0, e627, hx627_0, hl627_0, hi627_0⟩ := at_L4 (Kd.N_reads' HO625.out).2.2 0 p627 q627
                           cases e627
                           obtain ⟨ce627, hce627, hMe627, hcc627⟩ := Kd.N_get HO625.out [] 0 p627 (by exact q627)
                           obtain ⟨ua627_0, uc627_0, rfl, ul627_0, ge627_0⟩ := Kd.FK_slice_open hMe627
                           have hv627_0 := hcc627 0 _ rfl
                           rw [Nat.add_zero, show ((Kd.slice 45 (Kd.slice 2 (Kd.int .i64)))).sz = 1 from rfl, Nat.mul_one] at hv627_0
                           replace hv627_0 := Option.some.inj (hv627_0.symm.trans hx627_0)
                           injection hv627_0 with hva_ hvn_ hvc_
                           rw [hva_] at ge627_0
                           rw [hvc_] at ul627_0
                           have HL627_0 := zA (show Kd.V (Kd.slice 2 (Kd.int .i64)) 45 _ w.heap.size _ _ (rd_L4 t623 0) from Kd.V_mk ul627_0 ge627_0)
                           clear hva_ hvn_ hvc_ ge627_0 ul627_0
                           clear hcc627 hce627
                           have qi627 : (0 < t623.length) = True := eq_true (by omega)
                           (try rw [show ((0 : Int)).toNat = 0 from rfl] at hx627_0)
                           (try rw [Addr.add_zero'] at hx627_0)
                           have HR627_0 := zA hi627_0
                           have HC627_0 := zA hl627_0
                           clear hi627_0 hl627_0
                           replace p627 := eq_true p627
                           replace q627 := eq_true q627
                           go_wp2_with (first | (go_at_call 10; (with_reducible refine (laws_lists9.calls kj62 _ _ (rd_L4 t620 0) _ _ (rd_L4 t623 0) true _ ?side1 ?side2 ?side3 ?side4 A82.out).mono ?_); (case side1 => repeat (first | exact (by repeat (first | (with_reducible exact HR626_0.out) | (with_reducible refine Kd.C_alloc ?_ _) | (with_reducible refine Kd.C_drewN ?_ _) | (with_reducible refine Kd.C_drew ?_) | exact HR626_0.out)) | (with_reducible refine Kd.C_alloc ?_ _) | (with_reducible refine Kd.C_drewN ?_ _) | (with_reducible refine Kd.C_drew ?_))); (case side2 => exact HC626_0.out); (case side3 => repeat (first | exact (by repeat (first | (with_reducible exact HR627_0.out) | (with_reducible refine Kd.C_alloc ?_ _) | (with_reducible refine Kd.C_drewN ?_ _) | (with_reducible refine Kd.C_drew ?_) | exact HR627_0.out)) | (with_reducible refine Kd.C_alloc ?_ _) | (with_reducible refine Kd.C_drewN ?_ _) | (with_reducible refine Kd.C_drew ?_))); (case side4 => exact HC627_0.out); rintro e w' ⟨rfl, ⟨nd, rfl⟩⟩; (try first | exact ⟨rfl, _, World.drewN_drewN _ _ _⟩ | exact ⟨rfl, _, Eq.trans (World.drewN_drewN _ _ _) (congrArg (World.drewN _) (Nat.add_assoc _ _ _))⟩); have p629 : 0 ≤ (1 : Int) := (by omega); have q629 : 1 < (t620.length : Int) := zD; obtain ⟨ad629, A629_0, c629_0, e629, hx629_0, hl629_0, hi629_0⟩ := at_L4 (Kd.N_reads' HO622.out).2.2 1 p629 q629; obtain rfl : ad626 = ad629 := (by injection e629); obtain ⟨ce629, hce629, hMe629, hcc629⟩ := Kd.N_get HO622.out [] 1 p629 (by first | exact q629 | exact zD | (have e_ := (Kd.N_reads' HO622.out).1; omega)); obtain ⟨ua629_0, uc629_0, rfl, ul629_0, ge629_0⟩ := Kd.FK_slice_open hMe629; have hv629_0 := hcc629 0 _ rfl; rw [Nat.add_zero, show ((Kd.slice 45 (Kd.slice 2 (Kd.int .i64)))).sz = 1 from rfl, Nat.mul_one] at hv629_0; replace hv629_0 := Option.some.inj (hv629_0.symm.trans hx629_0); injection hv629_0 with hva_ hvn_ hvc_; rw [hva_] at ge629_0; rw [hvc_] at ul629_0; have HL629_0 := zA (show Kd.V (Kd.slice 2 (Kd.int .i64)) 45 _ w.heap.size _ _ (rd_L4 t620 1) from Kd.V_mk ul629_0 ge629_0); clear hva_ hvn_ hvc_ ge629_0 ul629_0; clear hcc629 hce629; (try simp only [show (1 : Int).toNat = 1 from rfl, Nat.reduceMul, Nat.reduceEqDiff, Go.Addr.add, ↓reduceIte] at hx629_0); have qi629 : (1 < t620.length) = True := eq_true (by omega); (try rw [show ((1 : Int)).toNat = 1 from rfl] at hx629_0); have HR629_0 := zA hi629_0; have HC629_0 := zA hl629_0; clear hi629_0 hl629_0; replace p629 := eq_true p629; replace q629 := eq_true q629; have p630 : 0 ≤ (1 : Int) := (by omega); have q630 : 1 < (t623.length : Int) := zD; obtain ⟨ad630, A630_0, c630_0, e630, hx630_0, hl630_0, hi630_0⟩ := at_L4 (Kd.N_reads' HO625.out).2.2 1 p630 q630; obtain rfl : ad627 = ad630 := (by injection e630); obtain ⟨ce630, hce630, hMe630, hcc630⟩ := Kd.N_get HO625.out [] 1 p630 (by first | exact q630 | exact zD | (have e_ := (Kd.N_reads' HO625.out).1; omega)); obtain ⟨ua630_0, uc630_0, rfl, ul630_0, ge630_0⟩ := Kd.FK_slice_open hMe630; have hv630_0 := hcc630 0 _ rfl; rw [Nat.add_zero, show ((Kd.slice 45 (Kd.slice 2 (Kd.int .i64)))).sz = 1 from rfl, Nat.mul_one] at hv630_0; replace hv630_0 := Option.some.inj (hv630_0.symm.trans hx630_0); injection hv630_0 with hva_ hvn_ hvc_; rw [hva_] at ge630_0; rw [hvc_] at ul630_0; have HL630_0 := zA (show Kd.V (Kd.slice 2 (Kd.int .i64)) 45 _ w.heap.size _ _ (rd_L4 t623 1) from Kd.V_mk ul630_0 ge630_0); clear hva_ hvn_ hvc_ ge630_0 ul630_0; clear hcc630 hce630; (try simp only [show (1 : Int).toNat = 1 from rfl, Nat.reduceMul, Nat.reduceEqDiff, Go.Addr.add, ↓reduceIte] at hx630_0); have qi630 : (1 < t623.length) = True := eq_true (by omega); (try rw [show ((1 : Int)).toNat = 1 from rfl] at hx630_0); have HR630_0 := zA hi630_0; have HC630_0 := zA hl630_0; clear hi630_0 hl630_0; replace p630 := eq_true p630; replace q630 := eq_true q630) | (go_at_call 10; (with_reducible refine (laws_lists9.calls kj62 _ _ (rd_L4 t620 1) _ _ (rd_L4 t623 1) t631 _ ?side1 ?side2 ?side3 ?side4 A86.out).mono ?_); (case side1 => repeat (first | exact (by repeat (first | (with_reducible exact HR629_0.out) | (with_reducible refine Kd.C_alloc ?_ _) | (with_reducible refine Kd.C_drewN ?_ _) | (with_reducible refine Kd.C_drew ?_) | exact HR629_0.out)) | (with_reducible refine Kd.C_alloc ?_ _) | (with_reducible refine Kd.C_drewN ?_ _) | (with_reducible refine Kd.C_drew ?_))); (case side2 => exact HC629_0.out); (case side3 => repeat (first | exact (by repeat (first | (with_reducible exact HR630_0.out) | (with_reducible refine Kd.C_alloc ?_ _) | (with_reducible refine Kd.C_drewN ?_ _) | (with_reducible refine Kd.C_drew ?_) | exact HR630_0.out)) | (with_reducible refine Kd.C_alloc ?_ _) | (with_reducible refine Kd.C_drewN ?_ _) | (with_reducible refine Kd.C_drew ?_))); (case side4 => exact HC630_0.out); rintro e w' ⟨rfl, ⟨nd, rfl⟩⟩; (try first | exact ⟨rfl, _, World.drewN_drewN _ _ _⟩ | exact ⟨rfl, _, Eq.trans (World.drewN_drewN _ _ _) (congrArg (World.drewN _) (Nat.add_assoc _ _ _))⟩)))
                           repeat (go_quiet (first | (go_at_call 10; (with_reducible refine (laws_lists9.calls kj62 _ _ (rd_L4 t620 0) _ _ (rd_L4 t623 0) true _ ?side1 ?side2 ?side3 ?side4 A82.out).mono ?_); (case side1 => repeat (exact (by repeat (first | (with_reducible exact HR626_0.out) | (with_reducible refine Kd.C_drewN ?_ _))))); (case side2 => exact HC626_0.out); (case side3 => repeat (exact (by repeat (first | (with_reducible exact HR627_0.out) | (with_reducible refine Kd.C_drewN ?_ _))))); (case side4 => exact HC627_0.out); rintro e w' ⟨rfl, ⟨nd, rfl⟩⟩; (try exact ⟨rfl, _, World.drewN_drewN _ _ _⟩); have p629 : 0 ≤ (1 : Int) := (by omega); have q629 : 1 < (t620.length : Int) := zD; obtain ⟨ad629, A629_0, c629_0, e629, hx629_0, hl629_0, hi629_0⟩ := at_L4 (Kd.N_reads' HO622.out).2.2 1 p629 q629; obtain rfl : ad626 = ad629 := (by injection e629); obtain ⟨ce629, hce629, hMe629, hcc629⟩ := Kd.N_get HO622.out [] 1 p629 (by exact q629); obtain ⟨ua629_0, uc629_0, rfl, ul629_0, ge629_0⟩ := Kd.FK_slice_open hMe629; have hv629_0 := hcc629 0 _ rfl; rw [Nat.add_zero, show ((Kd.slice 45 (Kd.slice 2 (Kd.int .i64)))).sz = 1 from rfl, Nat.mul_one] at hv629_0; replace hv629_0 := Option.some.inj (hv629_0.symm.trans hx629_0); injection hv629_0 with hva_ hvn_ hvc_; rw [hva_] at ge629_0; rw [hvc_] at ul629_0; have HL629_0 := zA (show Kd.V (Kd.slice 2 (Kd.int .i64)) 45 _ w.heap.size _ _ (rd_L4 t620 1) from Kd.V_mk ul629_0 ge629_0); clear hva_ hvn_ hvc_ ge629_0 ul629_0; clear hcc629 hce629; (try simp only [show (1 : Int).toNat = 1 from rfl, Nat.reduceMul, Nat.reduceEqDiff, Go.Addr.add, ↓reduceIte] at hx629_0); have qi629 : (1 < t620.length) = True := eq_true (by omega); (try rw [show ((1 : Int)).toNat = 1 from rfl] at hx629_0); have HR629_0 := zA hi629_0; have HC629_0 := zA hl629_0; clear hi629_0 hl629_0; replace p629 := eq_true p629; replace q629 := eq_true q629; have p630 : 0 ≤ (1 : Int) := (by omega); have q630 : 1 < (t623.length : Int) := zD; obtain ⟨ad630, A630_0, c630_0, e630, hx630_0, hl630_0, hi630_0⟩ := at_L4 (Kd.N_reads' HO625.out).2.2 1 p630 q630; obtain rfl : ad627 = ad630 := (by injection e630); obtain ⟨ce630, hce630, hMe630, hcc630⟩ := Kd.N_get HO625.out [] 1 p630 (by exact q630); obtain ⟨ua630_0, uc630_0, rfl, ul630_0, ge630_0⟩ := Kd.FK_slice_open hMe630; have hv630_0 := hcc630 0 _ rfl; rw [Nat.add_zero, show ((Kd.slice 45 (Kd.slice 2 (Kd.int .i64)))).sz = 1 from rfl, Nat.mul_one] at hv630_0; replace hv630_0 := Option.some.inj (hv630_0.symm.trans hx630_0); injection hv630_0 with hva_ hvn_ hvc_; rw [hva_] at ge630_0; rw [hvc_] at ul630_0; have HL630_0 := zA (show Kd.V (Kd.slice 2 (Kd.int .i64)) 45 _ w.heap.size _ _ (rd_L4 t623 1) from Kd.V_mk ul630_0 ge630_0); clear hva_ hvn_ hvc_ ge630_0 ul630_0; clear hcc630 hce630; (try simp only [show (1 : Int).toNat = 1 from rfl, Nat.reduceMul, Nat.reduceEqDiff, Go.Addr.add, ↓reduceIte] at hx630_0); have qi630 : (1 < t623.length) = True := eq_true (by omega); (try rw [show ((1 : Int)).toNat = 1 from rfl] at hx630_0); have HR630_0 := zA hi630_0; have HC630_0 := zA hl630_0; clear hi630_0 hl630_0; replace p630 := eq_true p630; replace q630 := eq_true q630) | (go_at_call 10; (with_reducible refine (laws_lists9.calls kj62 _ _ (rd_L4 t620 1) _ _ (rd_L4 t623 1) t631 _ ?side1 ?side2 ?side3 ?side4 A86.out).mono ?_); (case side1 => repeat (exact (by repeat (first | (with_reducible exact HR629_0.out) | (with_reducible refine Kd.C_drewN ?_ _))))); (case side2 => exact HC629_0.out); (case side3 => repeat (exact (by repeat (first | (with_reducible exact HR630_0.out) | (with_reducible refine Kd.C_drewN ?_ _))))); (case side4 => exact HC630_0.out); rintro e w' ⟨rfl, ⟨nd, rfl⟩⟩; (try exact ⟨rfl, _, World.drewN_drewN _ _ _⟩))); try go_wp2_with (first | (go_at_call 10; (with_reducible refine (laws_lists9.calls kj62 _ _ (rd_L4 t620 0) _ _ (rd_L4 t623 0) true _ ?side1 ?side2 ?side3 ?side4 A82.out).mono ?_); (case side1 => repeat (first | exact (by repeat (first | (with_reducible exact HR626_0.out) | (with_reducible refine Kd.C_alloc ?_ _) | (with_reducible refine Kd.C_drewN ?_ _) | (with_reducible refine Kd.C_drew ?_) | exact HR626_0.out)) | (with_reducible refine Kd.C_alloc ?_ _) | (with_reducible refine Kd.C_drewN ?_ _) | (with_reducible refine Kd.C_drew ?_))); (case side2 => exact HC626_0.out); (case side3 => repeat (first | exact (by repeat (first | (with_reducible exact HR627_0.out) | (with_reducible refine Kd.C_alloc ?_ _) | (with_reducible refine Kd.C_drewN ?_ _) | (with_reducible refine Kd.C_drew ?_) | exact HR627_0.out)) | (with_reducible refine Kd.C_alloc ?_ _) | (with_reducible refine Kd.C_drewN ?_ _) | (with_reducible refine Kd.C_drew ?_))); (case side4 => exact HC627_0.out); rintro e w' ⟨rfl, ⟨nd, rfl⟩⟩; (try first | exact ⟨rfl, _, World.drewN_drewN _ _ _⟩ | exact ⟨rfl, _, Eq.trans (World.drewN_drewN _ _ _) (congrArg (World.drewN _) (Nat.add_assoc _ _ _))⟩); have p629 : 0 ≤ (1 : Int) := (by omega); have q629 : 1 < (t620.length : Int) := zD; obtain ⟨ad629, A629_0, c629_0, e629, hx629_0, hl629_0, hi629_0⟩ := at_L4 (Kd.N_reads' HO622.out).2.2 1 p629 q629; obtain rfl : ad626 = ad629 := (by injection e629); obtain ⟨ce629, hce629, hMe629, hcc629⟩ := Kd.N_get HO622.out [] 1 p629 (by first | exact q629 | exact zD | (have e_ := (Kd.N_reads' HO622.out).1; omega)); obtain ⟨ua629_0, uc629_0, rfl, ul629_0, ge629_0⟩ := Kd.FK_slice_open hMe629; have hv629_0 := hcc629 0 _ rfl; rw [Nat.add_zero, show ((Kd.slice 45 (Kd.slice 2 (Kd.int .i64)))).sz = 1 from rfl, Nat.mul_one] at hv629_0; replace hv629_0 := Option.some.inj (hv629_0.symm.trans hx629_0); injection hv629_0 with hva_ hvn_ hvc_; rw [hva_] at ge629_0; rw [hvc_] at ul629_0; have HL629_0 := zA (show Kd.V (Kd.slice 2 (Kd.int .i64)) 45 _ w.heap.size _ _ (rd_L4 t620 1) from Kd.V_mk ul629_0 ge629_0); clear hva_ hvn_ hvc_ ge629_0 ul629_0; clear hcc629 hce629; (try simp only [show (1 : Int).toNat = 1 from rfl, Nat.reduceMul, Nat.reduceEqDiff, Go.Addr.add, ↓reduceIte] at hx629_0); have qi629 : (1 < t620.length) = True := eq_true (by omega); (try rw [show ((1 : Int)).toNat = 1 from rfl] at hx629_0); have HR629_0 := zA hi629_0; have HC629_0 := zA hl629_0; clear hi629_0 hl629_0; replace p629 := eq_true p629; replace q629 := eq_true q629; have p630 : 0 ≤ (1 : Int) := (by omega); have q630 : 1 < (t623.length : Int) := zD; obtain ⟨ad630, A630_0, c630_0, e630, hx630_0, hl630_0, hi630_0⟩ := at_L4 (Kd.N_reads' HO625.out).2.2 1 p630 q630; obtain rfl : ad627 = ad630 := (by injection e630); obtain ⟨ce630, hce630, hMe630, hcc630⟩ := Kd.N_get HO625.out [] 1 p630 (by first | exact q630 | exact zD | (have e_ := (Kd.N_reads' HO625.out).1; omega)); obtain ⟨ua630_0, uc630_0, rfl, ul630_0, ge630_0⟩ := Kd.FK_slice_open hMe630; have hv630_0 := hcc630 0 _ rfl; rw [Nat.add_zero, show ((Kd.slice 45 (Kd.slice 2 (Kd.int .i64)))).sz = 1 from rfl, Nat.mul_one] at hv630_0; replace hv630_0 := Option.some.inj (hv630_0.symm.trans hx630_0); injection hv630_0 with hva_ hvn_ hvc_; rw [hva_] at ge630_0; rw [hvc_] at ul630_0; have HL630_0 := zA (show Kd.V (Kd.slice 2 (Kd.int .i64)) 45 _ w.heap.size _ _ (rd_L4 t623 1) from Kd.V_mk ul630_0 ge630_0); clear hva_ hvn_ hvc_ ge630_0 ul630_0; clear hcc630 hce630; (try simp only [show (1 : Int).toNat = 1 from rfl, Nat.reduceMul, Nat.reduceEqDiff, Go.Addr.add, ↓reduceIte] at hx630_0); have qi630 : (1 < t623.length) = True := eq_true (by omega); (try rw [show ((1 : Int)).toNat = 1 from rfl] at hx630_0); have HR630_0 := zA hi630_0; have HC630_0 := zA hl630_0; clear hi630_0 hl630_0; replace p630 := eq_true p630; replace q630 := eq_true q630) | (go_at_call 10; (with_reducible refine (laws_lists9.calls kj62 _ _ (rd_L4 t620 1) _ _ (rd_L4 t623 1) t631 _ ?side1 ?side2 ?side3 ?side4 A86.out).mono ?_); (case side1 => repeat (first | exact (by repeat (first | (with_reducible exact HR629_0.out) | (with_reducible refine Kd.C_alloc ?_ _) | (with_reducible refine Kd.C_drewN ?_ _) | (with_reducible refine Kd.C_drew ?_) | exact HR629_0.out)) | (with_reducible refine Kd.C_alloc ?_ _) | (with_reducible refine Kd.C_drewN ?_ _) | (with_reducible refine Kd.C_drew ?_))); (case side2 => exact HC629_0.out); (case side3 => repeat (first | exact (by repeat (first | (with_reducible exact HR630_0.out) | (with_reducible refine Kd.C_alloc ?_ _) | (with_reducible refine Kd.C_drewN ?_ _) | (with_reducible refine Kd.C_drew ?_) | exact HR630_0.out)) | (with_reducible refine Kd.C_alloc ?_ _) | (with_reducible refine Kd.C_drewN ?_ _) | (with_reducible refine Kd.C_drew ?_))); (case side4 => exact HC630_0.out); rintro e w' ⟨rfl, ⟨nd, rfl⟩⟩; (try first | exact ⟨rfl, _, World.drewN_drewN _ _ _⟩ | exact ⟨rfl, _, Eq.trans (World.drewN_drewN _ _ _) (congrArg (World.drewN _) (Nat.add_assoc _ _ _))⟩))))
                           go_meet
                           case rel => exact ⟨_, (!t631), (by rfl), H', ⟨by have := HJ6.out; have := HJ25.out; have := HJ34.out; have := HJ42.out; have := HK5.out; have := HJ62.out; omega⟩, ⟨by (with_reducible repeat (apply Kd.N_drewN)); exact Kd.N_mono HO_4.out (fun _ hk => ⟨hk.1.1.1, hk.1.1.2⟩)⟩, ⟨by (with_reducible repeat (apply Kd.N_drewN)); exact Kd.N_mono HO_6.out (fun _ hk => ⟨hk.1.1.1, hk.1.1.2⟩)⟩, ⟨by (with_reducible repeat (apply Kd.N_drewN)); exact Kd.N_mono HO_23.out (fun _ hk => ⟨hk.1.1.1, hk.1.1.2⟩)⟩, ⟨zB⟩⟩
                          ·rw [if_neg c85] at H
                           exact absurd H (by simp)
                         ·rw [if_neg c84] at H
                          exact absurd H (by simp)
                        ·replace c83 := Bool.eq_false_iff.mpr c83
                         subst c83
                         have H1 : (laws_FnTables.j6 kj62 t563 t564 t567 t568 t571 t592 t593 t594 t595 true) = some r := by rw [if_neg (show ¬ (false = true) by decide)] at H; exact H
                         clear H
                         have H := H1
                         clear H1
                         have H' := zA H
                         clear H
                         obtain ⟨Ao89, co89, eo89⟩ := Kd.N_slice HO622.out
                         subst eo89
                         have p626 : 0 ≤ (0 : Int) := (by omega)
                         have q626 : 0 < (t620.length : Int) := zD
                         obtain ⟨ad626, A626_0, c626_0, e626, hx626_0, hl626_0, hi626_0⟩ := at_L4 (Kd.N_reads' HO622.out).2.2 0 p626 q626
                         cases e626
                         obtain ⟨ce626, hce626, hMe626, hcc626⟩ := Kd.N_get HO622.out [] 0 p626 (by exact q626)
                         obtain ⟨ua626_0, uc626_0, rfl, ul626_0, ge626_0⟩ := Kd.FK_slice_open hMe626
                         have hv626_0 := hcc626 0 _ rfl
                         rw [Nat.add_zero, show ((Kd.slice 45 (Kd.slice 2 (Kd.int .i64)))).sz = 1 from rfl, Nat.mul_one] at hv626_0
                         replace hv626_0 := Option.some.inj (hv626_0.symm.trans hx626_0)
                         injection hv626_0 with hva_ hvn_ hvc_
                         rw [hva_] at ge626_0
                         rw [hvc_] at ul626_0
                         have HL626_0 := zA (show Kd.V (Kd.slice 2 (Kd.int .i64)) 45 _ w.heap.size _ _ (rd_L4 t620 0) from Kd.V_mk ul626_0 ge626_0)
                         clear hva_ hvn_ hvc_ ge626_0 ul626_0
                         clear hcc626 hce626
                         have qi626 : (0 < t620.length) = True := eq_true (by omega)
                         (try rw [show ((0 : Int)).toNat = 0 from rfl] at hx626_0)
                         (try rw [Addr.add_zero'] at hx626_0)
                         have HR626_0 := zA hi626_0
                         have HC626_0 := zA hl626_0
                         clear hi626_0 hl626_0
                         replace p626 := eq_true p626
                         replace q626 := eq_true q626
                         obtain ⟨Ao90, co90, eo90⟩ := Kd.N_slice HO625.out
                         subst eo90
                         have p627 : 0 ≤ (0 : Int) := (by omega)
                         have q627 : 0 < (t623.length : Int) := zD
                         obtain ⟨ad627, A627_0, c627_0, e627, hx627_0, hl627_0, hi627_0⟩ := at_L4 (Kd.N_reads' HO625.out).2.2 0 p627 q627
                         cases e627
                         obtain ⟨ce627, hce627, hMe627, hcc627⟩ := Kd.N_get HO625.out [] 0 p627 (by exact q627)
                         obtain ⟨ua627_0, uc627_0, rfl, ul627_0, ge627_0⟩ := Kd.FK_slice_open hMe627
                         have hv627_0 := hcc627 0 _ rfl
                         rw [Nat.add_zero, show ((Kd.slice 45 (Kd.slice 2 (Kd.int .i64)))).sz = 1 from rfl, Nat.mul_one] at hv627_0
                         replace hv627_0 := Option.some.inj (hv627_0.symm.trans hx627_0)
                         injection hv627_0 with hva_ hvn_ hvc_
                         rw [hva_] at ge627_0
                         rw [hvc_] at ul627_0
                         have HL627_0 := zA (show Kd.V (Kd.slice 2 (Kd.int .i64)) 45 _ w.heap.size _ _ (rd_L4 t623 0) from Kd.V_mk ul627_0 ge627_0)
                         clear hva_ hvn_ hvc_ ge627_0 ul627_0
                         clear hcc627 hce627
                         have qi627 : (0 < t623.length) = True := eq_true (by omega)
                         (try rw [show ((0 : Int)).toNat = 0 from rfl] at hx627_0)
                         (try rw [Addr.add_zero'] at hx627_0)
                         have HR627_0 := zA hi627_0
                         have HC627_0 := zA hl627_0
                         clear hi627_0 hl627_0
                         replace p627 := eq_true p627
                         replace q627 := eq_true q627
                         go_wp2_with (first | (go_at_call 10; (with_reducible refine (laws_lists9.calls kj62 _ _ (rd_L4 t620 0) _ _ (rd_L4 t623 0) false _ ?side1 ?side2 ?side3 ?side4 A82.out).mono ?_); (case side1 => repeat (first | exact (by repeat (first | (with_reducible exact HR626_0.out) | (with_reducible refine Kd.C_alloc ?_ _) | (with_reducible refine Kd.C_drewN ?_ _) | (with_reducible refine Kd.C_drew ?_) | exact HR626_0.out)) | (with_reducible refine Kd.C_alloc ?_ _) | (with_reducible refine Kd.C_drewN ?_ _) | (with_reducible refine Kd.C_drew ?_))); (case side2 => exact HC626_0.out); (case side3 => repeat (first | exact (by repeat (first | (with_reducible exact HR627_0.out) | (with_reducible refine Kd.C_alloc ?_ _) | (with_reducible refine Kd.C_drewN ?_ _) | (with_reducible refine Kd.C_drew ?_) | exact HR627_0.out)) | (with_reducible refine Kd.C_alloc ?_ _) | (with_reducible refine Kd.C_drewN ?_ _) | (with_reducible refine Kd.C_drew ?_))); (case side4 => exact HC627_0.out); rintro e w' ⟨rfl, ⟨nd, rfl⟩⟩; (try first | exact ⟨rfl, _, World.drewN_drewN _ _ _⟩ | exact ⟨rfl, _, Eq.trans (World.drewN_drewN _ _ _) (congrArg (World.drewN _) (Nat.add_assoc _ _ _))⟩)))
                         repeat (go_quiet (first | (go_at_call 10; (with_reducible refine (laws_lists9.calls kj62 _ _ (rd_L4 t620 0) _ _ (rd_L4 t623 0) false _ ?side1 ?side2 ?side3 ?side4 A82.out).mono ?_); (case side1 => repeat (exact (by repeat (first | (with_reducible exact HR626_0.out) | (with_reducible refine Kd.C_drewN ?_ _))))); (case side2 => exact HC626_0.out); (case side3 => repeat (exact (by repeat (first | (with_reducible exact HR627_0.out) | (with_reducible refine Kd.C_drewN ?_ _))))); (case side4 => exact HC627_0.out); rintro e w' ⟨rfl, ⟨nd, rfl⟩⟩; (try exact ⟨rfl, _, World.drewN_drewN _ _ _⟩))); try go_wp2_with (first | (go_at_call 10; (with_reducible refine (laws_lists9.calls kj62 _ _ (rd_L4 t620 0) _ _ (rd_L4 t623 0) false _ ?side1 ?side2 ?side3 ?side4 A82.out).mono ?_); (case side1 => repeat (first | exact (by repeat (first | (with_reducible exact HR626_0.out) | (with_reducible refine Kd.C_alloc ?_ _) | (with_reducible refine Kd.C_drewN ?_ _) | (with_reducible refine Kd.C_drew ?_) | exact HR626_0.out)) | (with_reducible refine Kd.C_alloc ?_ _) | (with_reducible refine Kd.C_drewN ?_ _) | (with_reducible refine Kd.C_drew ?_))); (case side2 => exact HC626_0.out); (case side3 => repeat (first | exact (by repeat (first | (with_reducible exact HR627_0.out) | (with_reducible refine Kd.C_alloc ?_ _) | (with_reducible refine Kd.C_drewN ?_ _) | (with_reducible refine Kd.C_drew ?_) | exact HR627_0.out)) | (with_reducible refine Kd.C_alloc ?_ _) | (with_reducible refine Kd.C_drewN ?_ _) | (with_reducible refine Kd.C_drew ?_))); (case side4 => exact HC627_0.out); rintro e w' ⟨rfl, ⟨nd, rfl⟩⟩; (try first | exact ⟨rfl, _, World.drewN_drewN _ _ _⟩ | exact ⟨rfl, _, Eq.trans (World.drewN_drewN _ _ _) (congrArg (World.drewN _) (Nat.add_assoc _ _ _))⟩))))
                         go_meet
                         case rel => exact ⟨_, (true), (by rfl), H', ⟨by have := HJ6.out; have := HJ25.out; have := HJ34.out; have := HJ42.out; have := HK5.out; have := HJ62.out; omega⟩, ⟨by (with_reducible repeat (apply Kd.N_drewN)); exact Kd.N_mono HO_4.out (fun _ hk => ⟨hk.1.1.1, hk.1.1.2⟩)⟩, ⟨by (with_reducible repeat (apply Kd.N_drewN)); exact Kd.N_mono HO_6.out (fun _ hk => ⟨hk.1.1.1, hk.1.1.2⟩)⟩, ⟨by (with_reducible repeat (apply Kd.N_drewN)); exact Kd.N_mono HO_23.out (fun _ hk => ⟨hk.1.1.1, hk.1.1.2⟩)⟩, ⟨zB⟩⟩
                       ·rw [if_neg c81] at H
                        exact absurd H (by simp)
                      ·rw [if_neg c80] at H
                       exact absurd H (by simp)
                     ·rw [if_neg c79] at H
                      have c79b0 : ((t620.length : Int) == 2) = false := beq_eq_false_iff_ne.mpr c79
                      have c79b1 : ((t620.length : Int) != 2) = true := bne_iff_ne.mpr c79
                      (skip)
                      have H' := zA H
                      clear H
                      obtain ⟨Ao91, co91, eo91⟩ := Kd.N_slice HO622.out
                      subst eo91
                      go_wp2
                      repeat (go_quiet (fail); try go_wp2)
                      go_meet
                      case rel => exact ⟨_, (true), (by rfl), H', ⟨by have := HJ6.out; have := HJ25.out; have := HJ34.out; have := HJ42.out; have := HK5.out; have := HJ62.out; omega⟩, ⟨by (with_reducible repeat (apply Kd.N_drewN)); exact Kd.N_mono HO_4.out (fun _ hk => ⟨hk.1.1.1, hk.1.1.2⟩)⟩, ⟨by (with_reducible repeat (apply Kd.N_drewN)); exact Kd.N_mono HO_6.out (fun _ hk => ⟨hk.1.1.1, hk.1.1.2⟩)⟩, ⟨by (with_reducible repeat (apply Kd.N_drewN)); exact Kd.N_mono HO_23.out (fun _ hk => ⟨hk.1.1.1, hk.1.1.2⟩)⟩, ⟨zB⟩⟩
                    case rest => as_aux_lemma =>
                     clear HC76
                     obtain ⟨kq, x236_75, rfl, HA, HJ75, HO_4, HO_6, HO_23, HB⟩ := hcut
                     cases kq with
                     | zero => exact absurd HA.out (by simp [laws_FnTables.j6])
                     | succ kj75 =>
                      have H := HA.out
                      clear HA
                      simp only [laws_FnTables.j6] at H
                      by_cases c92 : x236_75 = true
                      ·subst c92
                       have H1 : (some false) = some r := by rw [if_pos rfl] at H; exact H
                       clear H
                       have H := H1
                       clear H1
                       obtain rfl := Option.some.inj H
                       go_wp2
                       repeat (go_quiet (fail); try go_wp2)
                       go_ret
                       exact ⟨by rfl, zB⟩
                      ·replace c92 := Bool.eq_false_iff.mpr c92
                       subst c92
                       have H1 : (if t595 = 0 then ((impl_ProductOfWord.f kj75 t592 t594 t593).bind fun bt632 => (if bt632.2 = 0 then (if 0 < (bt632.1.length : Int) then (if 0 ≤ (t593.size : Int) then (if (t593.size : Int) < ((rd_L3 bt632.1 0).length : Int) then (if (rd (rd_L3 bt632.1 0) (t593.size : Int)) = 1 then ((impl_AreTables.f t592 t594).bind fun t638 => (if t638 = true then (laws_FnTables.j7 kj75 t563 t564 t567 t568 t571) else (some false))) else (some false)) else (none)) else (none)) else (none)) else (some false))) else (laws_FnTables.j7 kj75 t563 t564 t567 t568 t571)) = some r := by rw [if_neg (show ¬ (false = true) by decide)] at H; exact H
                       clear H
                       have H := H1
                       clear H1
                       have HC93 := zA H
                       clear H
                       go_upto_if 238 with (fail)
                       repeat (go_quiet (fail); go_upto_if 238 with (fail))
                       go_cut [] (fun wc => ∃ (kq : Nat), Aside0 (laws_FnTables.j7 kq t563 t564 t567 t568 t571 = some r) ∧ Aside0 (kq ≤ kj75) ∧ Aside0 (Kd.N (Kd.slice 45 (Kd.slice 2 (Kd.int .i64))) 27 wc w.heap.size (fun k_ => some k_ ≠ (v569 : Value).ownBlock) (.slice Ao9 t564.length co9) t564) ∧ Aside0 (Kd.N (Kd.slice 2 (Kd.int .i64)) 45 wc w.heap.size (fun k_ => some k_ ≠ ((.slice Ao9 t564.length co9) : Value).ownBlock) v569 t568) ∧ Aside0 (Below w.heap.size w wc))
                       case first => as_aux_lemma =>
                        have H := HC93.out
                        clear HC93
                        by_cases c94 : t595 = 0
                        ·rw [if_pos c94] at H
                         have c94b0 : (t595 == 0) = true := beq_iff_eq.mpr c94
                         have c94b1 : (t595 != 0) = false := bne_eq_false_iff_eq.mpr c94
                         clear c94
                         (rw [c94b0])
                         replace H := Option.bind_eq_some_iff.mp H
                         obtain ⟨⟨t632, t635⟩, A950, H⟩ := H
                         replace H : (if t635 = 0 then (if 0 < (t632.length : Int) then (if 0 ≤ (t593.size : Int) then (if (t593.size : Int) < ((rd_L3 t632 0).length : Int) then (if (rd (rd_L3 t632 0) (t593.size : Int)) = 1 then ((impl_AreTables.f t592 t594).bind fun t638 => (if t638 = true then (laws_FnTables.j7 kj75 t563 t564 t567 t568 t571) else (some false))) else (some false)) else (none)) else (none)) else (none)) else (some false)) = some r := H
                         have A95 := zA A950
                         clear A950
                         by_cases c96 : t635 = 0
                         ·rw [if_pos c96] at H
                          have c96b0 : (t635 == 0) = true := beq_iff_eq.mpr c96
                          have c96b1 : (t635 != 0) = false := bne_eq_false_iff_eq.mpr c96
                          clear c96
                          by_cases c97 : 0 < (t632.length : Int)
                          ·rw [if_pos c97] at H
                           have c97b0 : decide (0 < (t632.length : Int)) = true := decide_eq_true c97
                           have c97b1 : decide (0 < t632.length) = true := decide_eq_true (by omega)
                           clear c97
                           by_cases c98 : 0 ≤ (t593.size : Int)
                           ·rw [if_pos c98] at H
                            have c98b0 : decide (0 ≤ (t593.size : Int)) = true := decide_eq_true c98
                            have c98b1 : decide (0 ≤ t593.size) = true := decide_eq_true (by omega)
                            clear c98
                            by_cases c99 : (t593.size : Int) < ((rd_L3 t632 0).length : Int)
                            ·rw [if_pos c99] at H
                             have c99b0 : decide ((t593.size : Int) < ((rd_L3 t632 0).length : Int)) = true := decide_eq_true c99
                             have c99b1 : decide (t593.size < (rd_L3 t632 0).length) = true := decide_eq_true (Int.ofNat_lt.mp c99)
                             clear c99
                             by_cases c100 : (rd (rd_L3 t632 0) (t593.size : Int)) = 1
                             ·rw [if_pos c100] at H
                              have c100b0 : ((rd (rd_L3 t632 0) (t593.size : Int)) == 1) = true := beq_iff_eq.mpr c100
                              have c100b1 : ((rd (rd_L3 t632 0) (t593.size : Int)) != 1) = false := bne_eq_false_iff_eq.mpr c100
                              clear c100
                              replace H := Option.bind_eq_some_iff.mp H
                              obtain ⟨t638, A1010, H⟩ := H
                              replace H : (if t638 = true then (laws_FnTables.j7 kj75 t563 t564 t567 t568 t571) else (some false)) = some r := H
                              have A101 := zA A1010
                              clear A1010
                              by_cases c102 : t638 = true
                              ·subst c102
                               have H1 : (laws_FnTables.j7 kj75 t563 t564 t567 t568 t571) = some r := by rw [if_pos rfl] at H; exact H
                               clear H
                               have H := H1
                               clear H1
                               have H' := zA H
                               clear H
                               go_wp2_with (first | (go_at_call 8; (with_reducible refine (impl_ProductOfWord.calls kj75 t592 _ _ t594 t593 t632 t635 _ ?side1 ?side2 A95.out).mono ?_); (case side1 => repeat (exact (Kd.N_reads' HO_23.out).2.2)); (case side2 => exact (Kd.N_reads' HO_23.out).2.1); rintro e w103 ⟨v633, rfl, ho0, hb⟩; have HO634 := zA (Kd.N_lower (Kd.N_mono (ok' := fun k_ => some k_ ≠ (.slice Ao9 t564.length co9 : Value).ownBlock ∧ some k_ ≠ (v569 : Value).ownBlock ∧ some k_ ≠ (.slice Ao64 t594.length co64 : Value).ownBlock) ho0 (fun k_ hk_ => ⟨(Kd.fresh' (Kd.N_lt (by exact HO_4.out)) k_ hk_), (Kd.fresh' (Kd.N_lt (by exact HO_6.out)) k_ hk_), (Kd.fresh' (Kd.N_lt (by exact HO_23.out)) k_ hk_)⟩)) (below_size zB)); replace HO_4 := zA (Kd.N_elder' (by exact HO_4.out) (Kd.N_base ho0) hb); replace HO_6 := zA (Kd.N_elder' (by exact HO_6.out) (Kd.N_base ho0) hb); replace HO_23 := zA (Kd.N_elder' (by exact HO_23.out) (Kd.N_base ho0) hb); replace HB := zA (below_step zB hb); (try clear hb); (try clear hb2); (try clear hk); (try clear hi); (try clear ho0); obtain ⟨Ao104, co104, eo104⟩ := Kd.N_slice HO634.out; subst eo104; have p636 : 0 ≤ (0 : Int) := (by omega); have q636 : 0 < (t632.length : Int) := zD; obtain ⟨ad636, A636_0, c636_0, e636, hx636_0, hl636_0, hi636_0⟩ := at_L3 (Kd.N_reads' HO634.out).2.2 0 p636 q636; cases e636; obtain ⟨ce636, hce636, hMe636, hcc636⟩ := Kd.N_get HO634.out [] 0 p636 (by exact q636); obtain ⟨ua636_0, uc636_0, rfl, ul636_0, ge636_0⟩ := Kd.FK_slice_open hMe636; have hv636_0 := hcc636 0 _ rfl; rw [Nat.add_zero, show ((Kd.slice 2 (Kd.int .i64))).sz = 1 from rfl, Nat.mul_one] at hv636_0; replace hv636_0 := Option.some.inj (hv636_0.symm.trans hx636_0); injection hv636_0 with hva_ hvn_ hvc_; rw [hva_] at ge636_0; rw [hvc_] at ul636_0; have HL636_0 := zA (show Kd.V (Kd.int .i64) 2 _ w.heap.size _ _ (rd_L3 t632 0) from Kd.V_mk ul636_0 ge636_0); clear hva_ hvn_ hvc_ ge636_0 ul636_0; clear hcc636 hce636; have qi636 : (0 < t632.length) = True := eq_true (by omega); (try rw [show ((0 : Int)).toNat = 0 from rfl] at hx636_0); (try rw [Addr.add_zero'] at hx636_0); have HR636_0 := zA hi636_0; have HC636_0 := zA hl636_0; clear hi636_0 hl636_0; replace p636 := eq_true p636; replace q636 := eq_true q636; have p637 : 0 ≤ ((t593.size : Int) : Int) := zD; have q637 : (t593.size : Int) < ((rd_L3 t632 0).length : Int) := zD; obtain ⟨ad637, e637, hx637_0⟩ := Kd.at_int (by repeat ((with_reducible exact HR636_0.out))) (t593.size : Int) p637 q637; cases e637; (try rw [Int.toNat_natCast] at hx637_0); replace p637 := eq_true p637; replace q637 := eq_true q637) | (go_at_call 11; (with_reducible refine (impl_AreTables.calls t592 _ _ t594 true _ ?side1 ?side2 A101.out).mono ?_); (case side1 => repeat (exact (Kd.N_reads' HO_23.out).2.2)); (case side2 => exact (Kd.N_reads' HO_23.out).2.1); rintro e w105 ⟨rfl, hb⟩; replace HO_4 := zA (Kd.N_below (by exact HO_4.out) hb); replace HO_6 := zA (Kd.N_below (by exact HO_6.out) hb); replace HO_23 := zA (Kd.N_below (by exact HO_23.out) hb); replace HO634 := zA (Kd.N_below (by exact HO634.out) hb); replace HL636_0 := zA (Kd.V_below (by exact HL636_0.out) hb); replace HR636_0 := zA (Kd.C_below (by repeat ((with_reducible exact HR636_0.out))) hb); replace HB := zA (below_step zB hb); (try clear hb); (try clear hb2); (try clear hk); (try clear hi)))

                               go_meet
                               case rel => exact ⟨_, H', ⟨by have := HJ6.out; have := HJ25.out; have := HJ34.out; have := HJ42.out; have := HK5.out; have := HJ62.out; have := HJ75.out; omega⟩, ⟨by exact Kd.N_mono HO_4.out (fun _ hk => hk.1.1)⟩, ⟨by exact Kd.N_mono HO_6.out (fun _ hk => hk.1.1)⟩, ⟨zB⟩⟩
                              ·replace c102 := Bool.eq_false_iff.mpr c102
                               subst c102
                               have H1 : (some false) = some r := by rw [if_neg (show ¬ (false = true) by decide)] at H; exact H
                               clear H
                               have H := H1
                               clear H1
                               obtain rfl := Option.some.inj H
                               go_wp2_with (first | (go_at_call 8; (with_reducible refine (impl_ProductOfWord.calls kj75 t592 _ _ t594 t593 t632 t635 _ ?side1 ?side2 A95.out).mono ?_); (case side1 => repeat (exact (Kd.N_reads' HO_23.out).2.2)); (case side2 => exact (Kd.N_reads' HO_23.out).2.1); rintro e w106 ⟨v633, rfl, ho0, hb⟩; have HO634 := zA (Kd.N_lower (Kd.N_mono (ok' := fun k_ => some k_ ≠ (.slice Ao9 t564.length co9 : Value).ownBlock ∧ some k_ ≠ (v569 : Value).ownBlock ∧ some k_ ≠ (.slice Ao64 t594.length co64 : Value).ownBlock) ho0 (fun k_ hk_ => ⟨(Kd.fresh' (Kd.N_lt (by exact HO_4.out)) k_ hk_), (Kd.fresh' (Kd.N_lt (by exact HO_6.out)) k_ hk_), (Kd.fresh' (Kd.N_lt (by exact HO_23.out)) k_ hk_)⟩)) (below_size zB)); replace HO_4 := zA (Kd.N_elder' (by exact HO_4.out) (Kd.N_base ho0) hb); replace HO_6 := zA (Kd.N_elder' (by exact HO_6.out) (Kd.N_base ho0) hb); replace HO_23 := zA (Kd.N_elder' (by exact HO_23.out) (Kd.N_base ho0) hb); replace HB := zA (below_step zB hb); (try clear hb); (try clear hb2); (try clear hk); (try clear hi); (try clear ho0); obtain ⟨Ao107, co107, eo107⟩ := Kd.N_slice HO634.out; subst eo107; have p636 : 0 ≤ (0 : Int) := (by omega); have q636 : 0 < (t632.length : Int) := zD; obtain ⟨ad636, A636_0, c636_0, e636, hx636_0, hl636_0, hi636_0⟩ := at_L3 (Kd.N_reads' HO634.out).2.2 0 p636 q636; cases e636; obtain ⟨ce636, hce636, hMe636, hcc636⟩ := Kd.N_get HO634.out [] 0 p636 (by exact q636); obtain ⟨ua636_0, uc636_0, rfl, ul636_0, ge636_0⟩ := Kd.FK_slice_open hMe636; have hv636_0 := hcc636 0 _ rfl; rw [Nat.add_zero, show ((Kd.slice 2 (Kd.int .i64))).sz = 1 from rfl, Nat.mul_one] at hv636_0; replace hv636_0 := Option.some.inj (hv636_0.symm.trans hx636_0); injection hv636_0 with hva_ hvn_ hvc_; rw [hva_] at ge636_0; rw [hvc_] at ul636_0; have HL636_0 := zA (show Kd.V (Kd.int .i64) 2 _ w.heap.size _ _ (rd_L3 t632 0) from Kd.V_mk ul636_0 ge636_0); clear hva_ hvn_ hvc_ ge636_0 ul636_0; clear hcc636 hce636; have qi636 : (0 < t632.length) = True := eq_true (by omega); (try rw [show ((0 : Int)).toNat = 0 from rfl] at hx636_0); (try rw [Addr.add_zero'] at hx636_0); have HR636_0 := zA hi636_0; have HC636_0 := zA hl636_0; clear hi636_0 hl636_0; replace p636 := eq_true p636; replace q636 := eq_true q636; have p637 : 0 ≤ ((t593.size : Int) : Int) := zD; have q637 : (t593.size : Int) < ((rd_L3 t632 0).length : Int) := zD; obtain ⟨ad637, e637, hx637_0⟩ := Kd.at_int (by repeat ((with_reducible exact HR636_0.out))) (t593.size : Int) p637 q637; cases e637; (try rw [Int.toNat_natCast] at hx637_0); replace p637 := eq_true p637; replace q637 := eq_true q637) | (go_at_call 11; (with_reducible refine (impl_AreTables.calls t592 _ _ t594 false _ ?side1 ?side2 A101.out).mono ?_); (case side1 => repeat (exact (Kd.N_reads' HO_23.out).2.2)); (case side2 => exact (Kd.N_reads' HO_23.out).2.1); rintro e w108 ⟨rfl, hb⟩; replace HO_4 := zA (Kd.N_below (by exact HO_4.out) hb); replace HO_6 := zA (Kd.N_below (by exact HO_6.out) hb); replace HO_23 := zA (Kd.N_below (by exact HO_23.out) hb); replace HO634 := zA (Kd.N_below (by exact HO634.out) hb); replace HL636_0 := zA (Kd.V_below (by exact HL636_0.out) hb); replace HR636_0 := zA (Kd.C_below (by repeat ((with_reducible exact HR636_0.out))) hb); replace HB := zA (below_step zB hb); (try clear hb); (try clear hb2); (try clear hk); (try clear hi)))

                               go_ret
                               exact ⟨by rfl, zB⟩
                             ·rw [if_neg c100] at H
                              have c100b0 : ((rd (rd_L3 t632 0) (t593.size : Int)) == 1) = false := beq_eq_false_iff_ne.mpr c100
                              have c100b1 : ((rd (rd_L3 t632 0) (t593.size : Int)) != 1) = true := bne_iff_ne.mpr c100
                              obtain rfl := Option.some.inj H
                              go_wp2_with (first | (go_at_call 8; (with_reducible refine (impl_ProductOfWord.calls kj75 t592 _ _ t594 t593 t632 t635 _ ?side1 ?side2 A95.out).mono ?_); (case side1 => repeat (exact (Kd.N_reads' HO_23.out).2.2)); (case side2 => exact (Kd.N_reads' HO_23.out).2.1); rintro e w109 ⟨v633, rfl, ho0, hb⟩; have HO634 := zA (Kd.N_lower (Kd.N_mono (ok' := fun k_ => some k_ ≠ (.slice Ao9 t564.length co9 : Value).ownBlock ∧ some k_ ≠ (v569 : Value).ownBlock ∧ some k_ ≠ (.slice Ao64 t594.length co64 : Value).ownBlock) ho0 (fun k_ hk_ => ⟨(Kd.fresh' (Kd.N_lt (by exact HO_4.out)) k_ hk_), (Kd.fresh' (Kd.N_lt (by exact HO_6.out)) k_ hk_), (Kd.fresh' (Kd.N_lt (by exact HO_23.out)) k_ hk_)⟩)) (below_size zB)); replace HO_4 := zA (Kd.N_elder' (by exact HO_4.out) (Kd.N_base ho0) hb); replace HO_6 := zA (Kd.N_elder' (by exact HO_6.out) (Kd.N_base ho0) hb); replace HO_23 := zA (Kd.N_elder' (by exact HO_23.out) (Kd.N_base ho0) hb); replace HB := zA (below_step zB hb); (try clear hb); (try clear hb2); (try clear hk); (try clear hi); (try clear ho0); obtain ⟨Ao110, co110, eo110⟩ := Kd.N_slice HO634.out; subst eo110; have p636 : 0 ≤ (0 : Int) := (by omega); have q636 : 0 < (t632.length : Int) := zD; obtain ⟨ad636, A636_0, c636_0, e636, hx636_0, hl636_0, hi636_0⟩ := at_L3 (Kd.N_reads' HO634.out).2.2 0 p636 q636; cases e636; obtain ⟨ce636, hce636, hMe636, hcc636⟩ := Kd.N_get HO634.out [] 0 p636 (by exact q636); obtain ⟨ua636_0, uc636_0, rfl, ul636_0, ge636_0⟩ := Kd.FK_slice_open hMe636; have hv636_0 := hcc636 0 _ rfl; rw [Nat.add_zero, show ((Kd.slice 2 (Kd.int .i64))).sz = 1 from rfl, Nat.mul_one] at hv636_0; replace hv636_0 := Option.some.inj (hv636_0.symm.trans hx636_0); injection hv636_0 with hva_ hvn_ hvc_; rw [hva_] at ge636_0; rw [hvc_] at ul636_0; have HL636_0 := zA (show Kd.V (Kd.int .i64) 2 _ w.heap.size _ _ (rd_L3 t632 0) from Kd.V_mk ul636_0 ge636_0); clear hva_ hvn_ hvc_ ge636_0 ul636_0; clear hcc636 hce636; have qi636 : (0 < t632.length) = True := eq_true (by omega); (try rw [show ((0 : Int)).toNat = 0 from rfl] at hx636_0); (try rw [Addr.add_zero'] at hx636_0); have HR636_0 := zA hi636_0; have HC636_0 := zA hl636_0; clear hi636_0 hl636_0; replace p636 := eq_true p636; replace q636 := eq_true q636; have p637 : 0 ≤ ((t593.size : Int) : Int) := zD; have q637 : (t593.size : Int) < ((rd_L3 t632 0).length : Int) := zD; obtain ⟨ad637, e637, hx637_0⟩ := Kd.at_int (by repeat ((with_reducible exact HR636_0.out))) (t593.size : Int) p637 q637; cases e637; (try rw [Int.toNat_natCast] at hx637_0); replace p637 := eq_true p637; replace q637 := eq_true q637))

                              go_ret
                              exact ⟨by rfl, zB⟩
                            ·rw [if_neg c99] at H
                             exact absurd H (by simp)
                           ·rw [if_neg c98] at H
                            exact absurd H (by simp)
                          ·rw [if_neg c97] at H
                           exact absurd H (by simp)
                         ·rw [if_neg c96] at H
                          have c96b0 : (t635 == 0) = false := beq_eq_false_iff_ne.mpr c96
                          have c96b1 : (t635 != 0) = true := bne_iff_ne.mpr c96
                          obtain rfl := Option.some.inj H
                          go_wp2_with (first | (go_at_call 8; (with_reducible refine (impl_ProductOfWord.calls kj75 t592 _ _ t594 t593 t632 t635 _ ?side1 ?side2 A95.out).mono ?_); (case side1 => repeat (exact (Kd.N_reads' HO_23.out).2.2)); (case side2 => exact (Kd.N_reads' HO_23.out).2.1); rintro e w111 ⟨v633, rfl, ho0, hb⟩; have HO634 := zA (Kd.N_lower (Kd.N_mono (ok' := fun k_ => some k_ ≠ (.slice Ao9 t564.length co9 : Value).ownBlock ∧ some k_ ≠ (v569 : Value).ownBlock ∧ some k_ ≠ (.slice Ao64 t594.length co64 : Value).ownBlock) ho0 (fun k_ hk_ => ⟨(Kd.fresh' (Kd.N_lt (by exact HO_4.out)) k_ hk_), (Kd.fresh' (Kd.N_lt (by exact HO_6.out)) k_ hk_), (Kd.fresh' (Kd.N_lt (by exact HO_23.out)) k_ hk_)⟩)) (below_size zB)); replace HO_4 := zA (Kd.N_elder' (by exact HO_4.out) (Kd.N_base ho0) hb); replace HO_6 := zA (Kd.N_elder' (by exact HO_6.out) (Kd.N_base ho0) hb); replace HO_23 := zA (Kd.N_elder' (by exact HO_23.out) (Kd.N_base ho0) hb); replace HB := zA (below_step zB hb); (try clear hb); (try clear hb2); (try clear hk); (try clear hi); (try clear ho0)))

                          go_ret
                          exact ⟨by rfl, zB⟩
                        ·rw [if_neg c94] at H
                         have c94b0 : (t595 == 0) = false := beq_eq_false_iff_ne.mpr c94
                         have c94b1 : (t595 != 0) = true := bne_iff_ne.mpr c94
                         (rw [c94b0])
                         have H' := zA H
                         clear H
                         go_wp2
                         repeat (go_quiet (fail); try go_wp2)
                         go_meet
                         case rel => exact ⟨_, H', ⟨by have := HJ6.out; have := HJ25.out; have := HJ34.out; have := HJ42.out; have := HK5.out; have := HJ62.out; have := HJ75.out; omega⟩, ⟨by exact Kd.N_mono HO_4.out (fun _ hk => hk.1)⟩, ⟨by exact Kd.N_mono HO_6.out (fun _ hk => hk.1)⟩, ⟨zB⟩⟩
                       case rest => as_aux_lemma =>
                        clear HC93
                        obtain ⟨kq, HA, HJ92, HO_4, HO_6, HB⟩ := hcut
                        cases kq with
                        | zero => exact absurd HA.out (by simp [laws_FnTables.j7])
                        | succ kj92 =>
                         have H := HA.out
                         clear HA
                         simp only [laws_FnTables.j7] at H
                         by_cases c112 : t571 = 0
                         ·rw [if_pos c112] at H
                          have c112b0 : (t571 == 0) = true := beq_iff_eq.mpr c112
                          have c112b1 : (t571 != 0) = false := bne_eq_false_iff_eq.mpr c112
                          clear c112
                          have H' := zA H
                          clear H
                          go_wp2
                          repeat (go_quiet (fail); try go_wp2)
                          go_loopg [40] kj92 (fun kq v40 w' => ∃ (x40_9 : Int), v40 = .int .i64 x40_9 ∧ Aside0 (laws_FnTables.l1 kq t563 t564 t567 t568 x40_9 = some r) ∧ Aside0 (kq ≤ kj92) ∧ Aside0 (Kd.N (Kd.slice 45 (Kd.slice 2 (Kd.int .i64))) 27 w' w.heap.size (fun k_ => some k_ ≠ (v569 : Value).ownBlock) (.slice Ao9 t564.length co9) t564) ∧ Aside0 (Kd.N (Kd.slice 2 (Kd.int .i64)) 45 w' w.heap.size (fun k_ => some k_ ≠ ((.slice Ao9 t564.length co9) : Value).ownBlock) v569 t568) ∧ Aside0 (Below w.heap.size w w'))
                          case atStart => exact ⟨(0), (by rfl), H', ⟨Nat.le_refl _⟩, ⟨by exact HO_4.out⟩, ⟨by exact HO_6.out⟩, ⟨zB⟩⟩
                          case round => as_aux_lemma =>
                           clear H'
                           obtain ⟨x40_9, rfl, HA, HK9, HO_4, HO_6, HB⟩ := hrel
                           cases gk with
                           | zero => exact absurd HA.out (by simp [laws_FnTables.l1])
                           | succ k9 =>
                            have H := HA.out
                            clear HA
                            simp only [laws_FnTables.l1] at H
                            by_cases c113 : x40_9 ≤ (t567.size : Int)
                            ·rw [if_pos c113] at H
                             have c113b0 : decide (x40_9 ≤ (t567.size : Int)) = true := decide_eq_true c113
                             clear c113
                             by_cases c114 : 0 ≤ x40_9
                             ·rw [if_pos c114] at H
                              have c114b0 := eq_true c114
                              have c114b1 : decide (0 ≤ x40_9) = true := decide_eq_true c114
                              clear c114
                              have c115b0 := eq_true (zD : x40_9 ≤ (t567.size : Int))
                              replace H := Option.bind_eq_some_iff.mp H
                              obtain ⟨⟨t639, t642⟩, A1160, H⟩ := H
                              replace H : ((impl_ProductOfWord.f k9 t563 t564 (t567.extract (x40_9 : Int).toNat t567.size)).bind fun bt643 => (if t642 = 0 then (if bt643.2 = 0 then (laws_FnTables.l2 k9 t563 t564 t567 t568 x40_9 t639 bt643.1 0) else (laws_FnTables.l1 k9 t563 t564 t567 t568 (wrap64 (x40_9 + 1)))) else (some false))) = some r := H
                              have A116 := zA A1160
                              clear A1160
                              have c117b0 := eq_true (zD : 0 ≤ x40_9)
                              have c118b0 := eq_true (zD : x40_9 ≤ (t567.size : Int))
                              replace H := Option.bind_eq_some_iff.mp H
                              obtain ⟨⟨t643, t646⟩, A1190, H⟩ := H
                              replace H : (if t642 = 0 then (if t646 = 0 then (laws_FnTables.l2 k9 t563 t564 t567 t568 x40_9 t639 t643 0) else (laws_FnTables.l1 k9 t563 t564 t567 t568 (wrap64 (x40_9 + 1)))) else (some false)) = some r := H
                              have A119 := zA A1190
                              clear A1190
                              by_cases c120 : t642 = 0
                              ·rw [if_pos c120] at H
                               have c120b0 : (t642 == 0) = true := beq_iff_eq.mpr c120
                               have c120b1 : (t642 != 0) = false := bne_eq_false_iff_eq.mpr c120
                               clear c120
                               by_cases c121 : t646 = 0
                               ·rw [if_pos c121] at H
                                have c121b0 : (t646 == 0) = true := beq_iff_eq.mpr c121
                                have c121b1 : (t646 != 0) = false := bne_eq_false_iff_eq.mpr c121
                                clear c121
                                have H' := zA H
                                clear H
                                go_wp2_with (first | (go_at_call 8; (with_reducible refine (impl_ProductOfWord.calls k9 t563 _ _ t564 (t567.extract 0 (x40_9 : Int).toNat) t639 t642 _ ?side1 ?side2 A116.out).mono ?_); (case side1 => repeat (exact (Kd.N_reads' HO_4.out).2.2)); (case side2 => exact (Kd.N_reads' HO_4.out).2.1); rintro e w122 ⟨v640, rfl, ho0, hb⟩; have HO641 := zA (Kd.N_lower (Kd.N_mono (ok' := fun k_ => some k_ ≠ (.slice Ao9 t564.length co9 : Value).ownBlock ∧ some k_ ≠ (v569 : Value).ownBlock) ho0 (fun k_ hk_ => ⟨(Kd.fresh' (Kd.N_lt (by exact HO_4.out)) k_ hk_), (Kd.fresh' (Kd.N_lt (by exact HO_6.out)) k_ hk_)⟩)) (below_size zB)); replace HO_4 := zA (Kd.N_elder' (by exact HO_4.out) (Kd.N_base ho0) hb); replace HO_6 := zA (Kd.N_elder' (by exact HO_6.out) (Kd.N_base ho0) hb); replace HB := zA (below_step zB hb); (try clear hb); (try clear hb2); (try clear hk); (try clear hi); (try clear ho0)) | (go_at_call 8; (with_reducible refine (impl_ProductOfWord.calls k9 t563 _ _ t564 (t567.extract (x40_9 : Int).toNat t567.size) t643 t646 _ ?side1 ?side2 A119.out).mono ?_); (case side1 => repeat (exact (Kd.N_reads' HO_4.out).2.2)); (case side2 => exact (Kd.N_reads' HO_4.out).2.1); rintro e w123 ⟨v644, rfl, ho0, hb⟩; have HO645 := zA (Kd.N_lower (Kd.N_mono (ok' := fun k_ => some k_ ≠ (.slice Ao9 t564.length co9 : Value).ownBlock ∧ some k_ ≠ (v569 : Value).ownBlock ∧ some k_ ≠ (v640 : Value).ownBlock) ho0 (fun k_ hk_ => ⟨(Kd.fresh' (Kd.N_lt (by exact HO_4.out)) k_ hk_), (Kd.fresh' (Kd.N_lt (by exact HO_6.out)) k_ hk_), (Kd.fresh' (Kd.N_lt (by exact HO641.out)) k_ hk_)⟩)) (below_size zB)); replace HO_4 := zA (Kd.N_elder' (by exact HO_4.out) (Kd.N_base ho0) hb); replace HO_6 := zA (Kd.N_elder' (by exact HO_6.out) (Kd.N_base ho0) hb); replace HO641 := zA (Kd.N_elder' (by exact HO641.out) (Kd.N_base ho0) hb); replace HB := zA (below_step zB hb); (try clear hb); (try clear hb2); (try clear hk); (try clear hi); (try clear ho0)))

                                go_loopg [45] k9 (fun kq v45 w' => ∃ (x45_10 : Int), v45 = .int .i64 x45_10 ∧ Aside0 (laws_FnTables.l2 kq t563 t564 t567 t568 x40_9 t639 t643 x45_10 = some r) ∧ Aside0 (kq ≤ k9) ∧ Aside0 (Kd.N (Kd.slice 45 (Kd.slice 2 (Kd.int .i64))) 27 w' w.heap.size (fun k_ => some k_ ≠ (v569 : Value).ownBlock ∧ some k_ ≠ (v640 : Value).ownBlock ∧ some k_ ≠ (v644 : Value).ownBlock) (.slice Ao9 t564.length co9) t564) ∧ Aside0 (Kd.N (Kd.slice 2 (Kd.int .i64)) 45 w' w.heap.size (fun k_ => some k_ ≠ ((.slice Ao9 t564.length co9) : Value).ownBlock ∧ some k_ ≠ (v640 : Value).ownBlock ∧ some k_ ≠ (v644 : Value).ownBlock) v569 t568) ∧ Aside0 (Kd.N (Kd.slice 2 (Kd.int .i64)) 45 w' w.heap.size (fun k_ => some k_ ≠ ((.slice Ao9 t564.length co9) : Value).ownBlock ∧ some k_ ≠ (v569 : Value).ownBlock ∧ some k_ ≠ (v644 : Value).ownBlock) v640 t639) ∧ Aside0 (Kd.N (Kd.slice 2 (Kd.int .i64)) 45 w' w.heap.size (fun k_ => some k_ ≠ ((.slice Ao9 t564.length co9) : Value).ownBlock ∧ some k_ ≠ (v569 : Value).ownBlock ∧ some k_ ≠ (v640 : Value).ownBlock) v644 t643) ∧ Aside0 (Below w.heap.size w w'))
                                case atStart => exact ⟨(0), (by rfl), H', ⟨Nat.le_refl _⟩, ⟨by exact Kd.N_mono HO_4.out (fun _ hk => ⟨hk.1.1, ⟨hk.1.2, hk.2⟩⟩)⟩, ⟨by exact Kd.N_mono HO_6.out (fun _ hk => ⟨hk.1.1, ⟨hk.1.2, hk.2⟩⟩)⟩, ⟨by exact Kd.N_mono HO641.out (fun _ hk => ⟨hk.1.1, ⟨hk.1.2, hk.2⟩⟩)⟩, ⟨by exact HO645.out⟩, ⟨zB⟩⟩
                                case round => as_aux_lemma =>
                                 clear H'
                                 obtain ⟨x45_10, rfl, HA, HK10, HO_4, HO_6, HO_41, HO_43, HB⟩ := hrel
                                 cases gk with
                                 | zero => exact absurd HA.out (by simp [laws_FnTables.l2])
                                 | succ k10 =>
                                  have H := HA.out
                                  clear HA
                                  simp only [laws_FnTables.l2] at H
                                  by_cases c124 : x45_10 < (t639.length : Int)
                                  ·rw [if_pos c124] at H
                                   have c124b0 : decide (x45_10 < (t639.length : Int)) = true := decide_eq_true c124
                                   clear c124
                                   have H' := zA H
                                   clear H
                                   obtain ⟨Ao125, co125, eo125⟩ := Kd.N_slice HO_41.out
                                   subst eo125
                                   go_wp2
                                   repeat (go_quiet (fail); try go_wp2)
                                   go_loopg [46] k10 (fun kq v46 w' => ∃ (x46_11 : Int), v46 = .int .i64 x46_11 ∧ Aside0 (laws_FnTables.l3 kq t563 t564 t567 t568 x40_9 t639 t643 x45_10 x46_11 = some r) ∧ Aside0 (kq ≤ k10) ∧ Aside0 (Kd.N (Kd.slice 45 (Kd.slice 2 (Kd.int .i64))) 27 w' w.heap.size (fun k_ => some k_ ≠ (v569 : Value).ownBlock ∧ some k_ ≠ ((.slice Ao125 t639.length co125) : Value).ownBlock ∧ some k_ ≠ (v644 : Value).ownBlock) (.slice Ao9 t564.length co9) t564) ∧ Aside0 (Kd.N (Kd.slice 2 (Kd.int .i64)) 45 w' w.heap.size (fun k_ => some k_ ≠ ((.slice Ao9 t564.length co9) : Value).ownBlock ∧ some k_ ≠ ((.slice Ao125 t639.length co125) : Value).ownBlock ∧ some k_ ≠ (v644 : Value).ownBlock) v569 t568) ∧ Aside0 (Kd.N (Kd.slice 2 (Kd.int .i64)) 45 w' w.heap.size (fun k_ => some k_ ≠ ((.slice Ao9 t564.length co9) : Value).ownBlock ∧ some k_ ≠ (v569 : Value).ownBlock ∧ some k_ ≠ (v644 : Value).ownBlock) (.slice Ao125 t639.length co125) t639) ∧ Aside0 (Kd.N (Kd.slice 2 (Kd.int .i64)) 45 w' w.heap.size (fun k_ => some k_ ≠ ((.slice Ao9 t564.length co9) : Value).ownBlock ∧ some k_ ≠ (v569 : Value).ownBlock ∧ some k_ ≠ ((.slice Ao125 t639.length co125) : Value).ownBlock) v644 t643) ∧ Aside0 (Below w.heap.size w w'))
                                   case atStart => exact ⟨(0), (by rfl), H', ⟨Nat.le_refl _⟩, ⟨by exact HO_4.out⟩, ⟨by exact HO_6.out⟩, ⟨by exact HO_41.out⟩, ⟨by exact HO_43.out⟩, ⟨zB⟩⟩
                                   case round => as_aux_lemma =>
                                    clear H'
                                    obtain ⟨x46_11, rfl, HA, HK11, HO_4, HO_6, HO_41, HO_43, HB⟩ := hrel
                                    cases gk with
                                    | zero => exact absurd HA.out (by simp [laws_FnTables.l3])
                                    | succ k11 =>
                                     have H := HA.out
                                     clear HA
                                     simp only [laws_FnTables.l3] at H
                                     by_cases c126 : x46_11 < (t639.length : Int)
                                     ·rw [if_pos c126] at H
                                      have c126b0 : decide (x46_11 < (t639.length : Int)) = true := decide_eq_true c126
                                      clear c126
                                      have H' := zA H
                                      clear H
                                      go_wp2
                                      repeat (go_quiet (fail); try go_wp2)
                                      go_loopg [47, 48] k11 (fun kq v47 v48 w' => ∃ (x47_12 : Int) (x48_12 : Int), v47 = .int .i64 x47_12 ∧ v48 = .int .i64 x48_12 ∧ Aside0 (laws_FnTables.l4 kq t563 t564 t567 t568 x40_9 t639 t643 x45_10 x46_11 x47_12 x48_12 = some r) ∧ Aside0 (kq ≤ k11) ∧ Aside0 (Kd.N (Kd.slice 45 (Kd.slice 2 (Kd.int .i64))) 27 w' w.heap.size (fun k_ => some k_ ≠ (v569 : Value).ownBlock ∧ some k_ ≠ ((.slice Ao125 t639.length co125) : Value).ownBlock ∧ some k_ ≠ (v644 : Value).ownBlock) (.slice Ao9 t564.length co9) t564) ∧ Aside0 (Kd.N (Kd.slice 2 (Kd.int .i64)) 45 w' w.heap.size (fun k_ => some k_ ≠ ((.slice Ao9 t564.length co9) : Value).ownBlock ∧ some k_ ≠ ((.slice Ao125 t639.length co125) : Value).ownBlock ∧ some k_ ≠ (v644 : Value).ownBlock) v569 t568) ∧ Aside0 (Kd.N (Kd.slice 2 (Kd.int .i64)) 45 w' w.heap.size (fun k_ => some k_ ≠ ((.slice Ao9 t564.length co9) : Value).ownBlock ∧ some k_ ≠ (v569 : Value).ownBlock ∧ some k_ ≠ (v644 : Value).ownBlock) (.slice Ao125 t639.length co125) t639) ∧ Aside0 (Kd.N (Kd.slice 2 (Kd.int .i64)) 45 w' w.heap.size (fun k_ => some k_ ≠ ((.slice Ao9 t564.length co9) : Value).ownBlock ∧ some k_ ≠ (v569 : Value).ownBlock ∧ some k_ ≠ ((.slice Ao125 t639.length co125) : Value).ownBlock) v644 t643) ∧ Aside0 (Below w.heap.size w w'))
                                      case atStart => exact ⟨(0), (0), (by rfl), (by rfl), H', ⟨Nat.le_refl _⟩, ⟨by exact HO_4.out⟩, ⟨by exact HO_6.out⟩, ⟨by exact HO_41.out⟩, ⟨by exact HO_43.out⟩, ⟨zB⟩⟩
                                      case round => as_aux_lemma =>
                                       clear H'
                                       obtain ⟨x47_12, x48_12, rfl, rfl, HA, HK12, HO_4, HO_6, HO_41, HO_43, HB⟩ := hrel
                                       cases gk with
                                       | zero => exact absurd HA.out (by simp [laws_FnTables.l4])
                                       | succ k12 =>
                                        have H := HA.out
                                        clear HA
                                        simp only [laws_FnTables.l4] at H
                                        by_cases c127 : x48_12 < (t639.length : Int)
                                        ·rw [if_pos c127] at H
                                         have c127b0 : decide (x48_12 < (t639.length : Int)) = true := decide_eq_true c127
                                         clear c127
                                         by_cases c128 : 0 ≤ x45_10
                                         ·rw [if_pos c128] at H
                                          have c128b0 : decide (0 ≤ x45_10) = true := decide_eq_true c128
                                          clear c128
                                          by_cases c129 : x45_10 < (t639.length : Int)
                                          ·rw [if_pos c129] at H
                                           have c129b0 : decide (x45_10 < (t639.length : Int)) = true := decide_eq_true c129
                                           clear c129
                                           by_cases c130 : 0 ≤ x48_12
                                           ·rw [if_pos c130] at H
                                            have c130b0 : decide (0 ≤ x48_12) = true := decide_eq_true c130
                                            clear c130
                                            by_cases c131 : x48_12 < ((rd_L3 t639 x45_10).length : Int)
                                            ·rw [if_pos c131] at H
                                             have c131b0 : decide (x48_12 < ((rd_L3 t639 x45_10).length : Int)) = true := decide_eq_true c131
                                             clear c131
                                             by_cases c132 : x48_12 < (t643.length : Int)
                                             ·rw [if_pos c132] at H
                                              have c132b0 : decide (x48_12 < (t643.length : Int)) = true := decide_eq_true c132
                                              clear c132
                                              by_cases c133 : 0 ≤ x46_11
                                              ·rw [if_pos c133] at H
                                               have c133b0 : decide (0 ≤ x46_11) = true := decide_eq_true c133
                                               clear c133
                                               by_cases c134 : x46_11 < ((rd_L3 t643 x48_12).length : Int)
                                               ·rw [if_pos c134] at H
                                                have c134b0 : decide (x46_11 < ((rd_L3 t643 x48_12).length : Int)) = true := decide_eq_true c134
                                                clear c134
                                                have H' := zA H
                                                clear H
                                                have p647 : 0 ≤ (x45_10 : Int) := zD
                                                have q647 : x45_10 < (t639.length : Int) := zD
                                                obtain ⟨ad647, A647_0, c647_0, e647, hx647_0, hl647_0, hi647_0⟩ := at_L3 (Kd.N_reads' HO_41.out).2.2 x45_10 p647 q647
                                                cases e647
                                                obtain ⟨ce647, hce647, hMe647, hcc647⟩ := Kd.N_get HO_41.out [] x45_10 p647 (by exact q647)
                                                obtain ⟨ua647_0, uc647_0, rfl, ul647_0, ge647_0⟩ := Kd.FK_slice_open hMe647
                                                have hv647_0 := hcc647 0 _ rfl
                                                rw [Nat.add_zero, show ((Kd.slice 2 (Kd.int .i64))).sz = 1 from rfl, Nat.mul_one] at hv647_0
                                                replace hv647_0 := Option.some.inj (hv647_0.symm.trans hx647_0)
                                                injection hv647_0 with hva_ hvn_ hvc_
                                                rw [hva_] at ge647_0
                                                rw [hvc_] at ul647_0
                                                have HL647_0 := zA (show Kd.V (Kd.int .i64) 2 _ w.heap.size _ _ (rd_L3 t639 x45_10) from Kd.V_mk ul647_0 ge647_0)
                                                clear hva_ hvn_ hvc_ ge647_0 ul647_0
                                                clear hcc647 hce647
                                                have HR647_0 := zA hi647_0
                                                have HC647_0 := zA hl647_0
                                                clear hi647_0 hl647_0
                                                replace p647 := eq_true p647
                                                replace q647 := eq_true q647
                                                have p648 : 0 ≤ (x48_12 : Int) := zD
                                                have q648 : x48_12 < ((rd_L3 t639 x45_10).length : Int) := zD
                                                obtain ⟨ad648, e648, hx648_0⟩ := Kd.at_int (by repeat ((with_reducible exact HR647_0.out))) x48_12 p648 q648
                                                cases e648
                                                replace p648 := eq_true p648
                                                replace q648 := eq_true q648
                                                obtain ⟨Ao135, co135, eo135⟩ := Kd.N_slice HO_43.out
                                                subst eo135
                                                have p649 : 0 ≤ (x48_12 : Int) := zD
                                                have q649 : x48_12 < (t643.length : Int) := zD
                                                obtain ⟨ad649, A649_0, c649_0, e649, hx649_0, hl649_0, hi649_0⟩ := at_L3 (Kd.N_reads' HO_43.out).2.2 x48_12 p649 q649
                                                cases e649
                                                obtain ⟨ce649, hce649, hMe649, hcc649⟩ := Kd.N_get HO_43.out [] x48_12 p649 (by exact q649)
                                                obtain ⟨ua649_0, uc649_0, rfl, ul649_0, ge649_0⟩ := Kd.FK_slice_open hMe649
                                                have hv649_0 := hcc649 0 _ rfl
                                                rw [Nat.add_zero, show ((Kd.slice 2 (Kd.int .i64))).sz = 1 from rfl, Nat.mul_one] at hv649_0
                                                replace hv649_0 := Option.some.inj (hv649_0.symm.trans hx649_0)
                                                injection hv649_0 with hva_ hvn_ hvc_
                                                rw [hva_] at ge649_0
                                                rw [hvc_] at ul649_0
                                                have HL649_0 := zA (show Kd.V (Kd.int .i64) 2 _ w.heap.size _ _ (rd_L3 t643 x48_12) from Kd.V_mk ul649_0 ge649_0)
                                                clear hva_ hvn_ hvc_ ge649_0 ul649_0
                                                clear hcc649 hce649
                                                have HR649_0 := zA hi649_0
                                                have HC649_0 := zA hl649_0
                                                clear hi649_0 hl649_0
                                                replace p649 := eq_true p649
                                                replace q649 := eq_true q649
                                                have p650 : 0 ≤ (x46_11 : Int) := zD
                                                have q650 : x46_11 < ((rd_L3 t643 x48_12).length : Int) := zD
                                                obtain ⟨ad650, e650, hx650_0⟩ := Kd.at_int (by repeat ((with_reducible exact HR649_0.out))) x46_11 p650 q650
                                                cases e650
                                                replace p650 := eq_true p650
                                                replace q650 := eq_true q650
                                                go_wp2
                                                repeat (go_quiet (fail); try go_wp2)
                                                go_roundg k12
                                                case measure => have := HJ6.out; have := HJ25.out; have := HJ34.out; have := HJ42.out; have := HK5.out; have := HJ62.out; have := HJ75.out; have := HJ92.out; have := HK9.out; have := HK10.out; have := HK11.out; have := HK12.out; omega
                                                case rel => exact ⟨(wrap64 (x47_12 + (wrap64 ((rd (rd_L3 t639 x45_10) x48_12) * (rd (rd_L3 t643 x48_12) x46_11))))), (wrap64 (x48_12 + 1)), (by rfl), (by rfl), H', ⟨by have := HJ6.out; have := HJ25.out; have := HJ34.out; have := HJ42.out; have := HK5.out; have := HJ62.out; have := HJ75.out; have := HJ92.out; have := HK9.out; have := HK10.out; have := HK11.out; have := HK12.out; omega⟩, ⟨by (with_reducible repeat (apply Kd.N_drewN)); exact HO_4.out⟩, ⟨by (with_reducible repeat (apply Kd.N_drewN)); exact HO_6.out⟩, ⟨by (with_reducible repeat (apply Kd.N_drewN)); exact HO_41.out⟩, ⟨by (with_reducible repeat (apply Kd.N_drewN)); exact HO_43.out⟩, ⟨zB⟩⟩
                                               ·rw [if_neg c134] at H
                                                exact absurd H (by simp)
                                              ·rw [if_neg c133] at H
                                               exact absurd H (by simp)
                                             ·rw [if_neg c132] at H
                                              exact absurd H (by simp)
                                            ·rw [if_neg c131] at H
                                             exact absurd H (by simp)
                                           ·rw [if_neg c130] at H
                                            exact absurd H (by simp)
                                          ·rw [if_neg c129] at H
                                           exact absurd H (by simp)
                                         ·rw [if_neg c128] at H
                                          exact absurd H (by simp)
                                        ·rw [if_neg c127] at H
                                         have c127b0 : decide (x48_12 < (t639.length : Int)) = false := decide_eq_false c127
                                         clear c127
                                         by_cases c136 : 0 ≤ x45_10
                                         ·rw [if_pos c136] at H
                                          have c136b0 : decide (0 ≤ x45_10) = true := decide_eq_true c136
                                          clear c136
                                          by_cases c137 : x45_10 < (t568.length : Int)
                                          ·rw [if_pos c137] at H
                                           have c137b0 : decide (x45_10 < (t568.length : Int)) = true := decide_eq_true c137
                                           clear c137
                                           by_cases c138 : 0 ≤ x46_11
                                           ·rw [if_pos c138] at H
                                            have c138b0 : decide (0 ≤ x46_11) = true := decide_eq_true c138
                                            clear c138
                                            by_cases c139 : x46_11 < ((rd_L3 t568 x45_10).length : Int)
                                            ·rw [if_pos c139] at H
                                             have c139b0 : decide (x46_11 < ((rd_L3 t568 x45_10).length : Int)) = true := decide_eq_true c139
                                             clear c139
                                             by_cases c140 : x47_12 = (rd (rd_L3 t568 x45_10) x46_11)
                                             ·rw [if_pos c140] at H
                                              have c140b0 : (x47_12 == (rd (rd_L3 t568 x45_10) x46_11)) = true := beq_iff_eq.mpr c140
                                              have c140b1 : (x47_12 != (rd (rd_L3 t568 x45_10) x46_11)) = false := bne_eq_false_iff_eq.mpr c140
                                              clear c140
                                              have H' := zA H
                                              clear H
                                              obtain ⟨Ao141, co141, eo141⟩ := Kd.N_slice HO_6.out
                                              subst eo141
                                              have p651 : 0 ≤ (x45_10 : Int) := zD
                                              have q651 : x45_10 < (t568.length : Int) := zD
                                              obtain ⟨ad651, A651_0, c651_0, e651, hx651_0, hl651_0, hi651_0⟩ := at_L3 (Kd.N_reads' HO_6.out).2.2 x45_10 p651 q651
                                              cases e651
                                              obtain ⟨ce651, hce651, hMe651, hcc651⟩ := Kd.N_get HO_6.out [] x45_10 p651 (by exact q651)
                                              obtain ⟨ua651_0, uc651_0, rfl, ul651_0, ge651_0⟩ := Kd.FK_slice_open hMe651
                                              have hv651_0 := hcc651 0 _ rfl
                                              rw [Nat.add_zero, show ((Kd.slice 2 (Kd.int .i64))).sz = 1 from rfl, Nat.mul_one] at hv651_0
                                              replace hv651_0 := Option.some.inj (hv651_0.symm.trans hx651_0)
                                              injection hv651_0 with hva_ hvn_ hvc_
                                              rw [hva_] at ge651_0
                                              rw [hvc_] at ul651_0
                                              have HL651_0 := zA (show Kd.V (Kd.int .i64) 2 _ w.heap.size _ _ (rd_L3 t568 x45_10) from Kd.V_mk ul651_0 ge651_0)
                                              clear hva_ hvn_ hvc_ ge651_0 ul651_0
                                              clear hcc651 hce651
                                              have HR651_0 := zA hi651_0
                                              have HC651_0 := zA hl651_0
                                              clear hi651_0 hl651_0
                                              replace p651 := eq_true p651
                                              replace q651 := eq_true q651
                                              have p652 : 0 ≤ (x46_11 : Int) := zD
                                              have q652 : x46_11 < ((rd_L3 t568 x45_10).length : Int) := zD
                                              obtain ⟨ad652, e652, hx652_0⟩ := Kd.at_int (by repeat ((with_reducible exact HR651_0.out))) x46_11 p652 q652
                                              cases e652
                                              replace p652 := eq_true p652
                                              replace q652 := eq_true q652
                                              go_wp2
                                              repeat (go_quiet (fail); try go_wp2)
                                              go_roundg k12
                                              case measure => have := HJ6.out; have := HJ25.out; have := HJ34.out; have := HJ42.out; have := HK5.out; have := HJ62.out; have := HJ75.out; have := HJ92.out; have := HK9.out; have := HK10.out; have := HK11.out; have := HK12.out; omega
                                              case rel => exact ⟨(wrap64 (x46_11 + 1)), (by rfl), H', ⟨by have := HJ6.out; have := HJ25.out; have := HJ34.out; have := HJ42.out; have := HK5.out; have := HJ62.out; have := HJ75.out; have := HJ92.out; have := HK9.out; have := HK10.out; have := HK11.out; have := HK12.out; omega⟩, ⟨by exact HO_4.out⟩, ⟨by exact HO_6.out⟩, ⟨by exact HO_41.out⟩, ⟨by exact HO_43.out⟩, ⟨zB⟩⟩
                                             ·rw [if_neg c140] at H
                                              have c140b0 : (x47_12 == (rd (rd_L3 t568 x45_10) x46_11)) = false := beq_eq_false_iff_ne.mpr c140
                                              have c140b1 : (x47_12 != (rd (rd_L3 t568 x45_10) x46_11)) = true := bne_iff_ne.mpr c140
                                              obtain rfl := Option.some.inj H
                                              obtain ⟨Ao142, co142, eo142⟩ := Kd.N_slice HO_6.out
                                              subst eo142
                                              have p651 : 0 ≤ (x45_10 : Int) := zD
                                              have q651 : x45_10 < (t568.length : Int) := zD
                                              obtain ⟨ad651, A651_0, c651_0, e651, hx651_0, hl651_0, hi651_0⟩ := at_L3 (Kd.N_reads' HO_6.out).2.2 x45_10 p651 q651
                                              cases e651
                                              obtain ⟨ce651, hce651, hMe651, hcc651⟩ := Kd.N_get HO_6.out [] x45_10 p651 (by exact q651)
                                              obtain ⟨ua651_0, uc651_0, rfl, ul651_0, ge651_0⟩ := Kd.FK_slice_open hMe651
                                              have hv651_0 := hcc651 0 _ rfl
                                              rw [Nat.add_zero, show ((Kd.slice 2 (Kd.int .i64))).sz = 1 from rfl, Nat.mul_one] at hv651_0
                                              replace hv651_0 := Option.some.inj (hv651_0.symm.trans hx651_0)
                                              injection hv651_0 with hva_ hvn_ hvc_
                                              rw [hva_] at ge651_0
                                              rw [hvc_] at ul651_0
                                              have HL651_0 := zA (show Kd.V (Kd.int .i64) 2 _ w.heap.size _ _ (rd_L3 t568 x45_10) from Kd.V_mk ul651_0 ge651_0)
                                              clear hva_ hvn_ hvc_ ge651_0 ul651_0
                                              clear hcc651 hce651
                                              have HR651_0 := zA hi651_0
                                              have HC651_0 := zA hl651_0
                                              clear hi651_0 hl651_0
                                              replace p651 := eq_true p651
                                              replace q651 := eq_true q651
                                              have p652 : 0 ≤ (x46_11 : Int) := zD
                                              have q652 : x46_11 < ((rd_L3 t568 x45_10).length : Int) := zD
                                              obtain ⟨ad652, e652, hx652_0⟩ := Kd.at_int (by repeat ((with_reducible exact HR651_0.out))) x46_11 p652 q652
                                              cases e652
                                              replace p652 := eq_true p652
                                              replace q652 := eq_true q652
                                              go_wp2
                                              repeat (go_quiet (fail); try go_wp2)
                                              go_ret
                                              exact ⟨by rfl, zB⟩
                                            ·rw [if_neg c139] at H
                                             exact absurd H (by simp)
                                           ·rw [if_neg c138] at H
                                            exact absurd H (by simp)
                                          ·rw [if_neg c137] at H
                                           exact absurd H (by simp)
                                         ·rw [if_neg c136] at H
                                          exact absurd H (by simp)
                                     ·rw [if_neg c126] at H
                                      have c126b0 : decide (x46_11 < (t639.length : Int)) = false := decide_eq_false c126
                                      clear c126
                                      have H' := zA H
                                      clear H
                                      go_wp2
                                      repeat (go_quiet (fail); try go_wp2)
                                      go_roundg k11
                                      case measure => have := HJ6.out; have := HJ25.out; have := HJ34.out; have := HJ42.out; have := HK5.out; have := HJ62.out; have := HJ75.out; have := HJ92.out; have := HK9.out; have := HK10.out; have := HK11.out; omega
                                      case rel => exact ⟨(wrap64 (x45_10 + 1)), (by rfl), H', ⟨by have := HJ6.out; have := HJ25.out; have := HJ34.out; have := HJ42.out; have := HK5.out; have := HJ62.out; have := HJ75.out; have := HJ92.out; have := HK9.out; have := HK10.out; have := HK11.out; omega⟩, ⟨by exact HO_4.out⟩, ⟨by exact HO_6.out⟩, ⟨by exact HO_41.out⟩, ⟨by exact HO_43.out⟩, ⟨zB⟩⟩
                                  ·rw [if_neg c124] at H
                                   have c124b0 : decide (x45_10 < (t639.length : Int)) = false := decide_eq_false c124
                                   clear c124
                                   have H' := zA H
                                   clear H
                                   obtain ⟨Ao143, co143, eo143⟩ := Kd.N_slice HO_41.out
                                   subst eo143
                                   go_wp2
                                   repeat (go_quiet (fail); try go_wp2)
                                   go_roundg k10
                                   case measure => have := HJ6.out; have := HJ25.out; have := HJ34.out; have := HJ42.out; have := HK5.out; have := HJ62.out; have := HJ75.out; have := HJ92.out; have := HK9.out; have := HK10.out; omega
                                   case rel => exact ⟨(wrap64 (x40_9 + 1)), (by rfl), H', ⟨by have := HJ6.out; have := HJ25.out; have := HJ34.out; have := HJ42.out; have := HK5.out; have := HJ62.out; have := HJ75.out; have := HJ92.out; have := HK9.out; have := HK10.out; omega⟩, ⟨by exact Kd.N_mono HO_4.out (fun _ hk => hk.1)⟩, ⟨by exact Kd.N_mono HO_6.out (fun _ hk => hk.1)⟩, ⟨zB⟩⟩
                               ·rw [if_neg c121] at H
                                have c121b0 : (t646 == 0) = false := beq_eq_false_iff_ne.mpr c121
                                have c121b1 : (t646 != 0) = true := bne_iff_ne.mpr c121
                                have H' := zA H
                                clear H
                                go_wp2_with (first | (go_at_call 8; (with_reducible refine (impl_ProductOfWord.calls k9 t563 _ _ t564 (t567.extract 0 (x40_9 : Int).toNat) t639 t642 _ ?side1 ?side2 A116.out).mono ?_); (case side1 => repeat (exact (Kd.N_reads' HO_4.out).2.2)); (case side2 => exact (Kd.N_reads' HO_4.out).2.1); rintro e w144 ⟨v640, rfl, ho0, hb⟩; have HO641 := zA (Kd.N_lower (Kd.N_mono (ok' := fun k_ => some k_ ≠ (.slice Ao9 t564.length co9 : Value).ownBlock ∧ some k_ ≠ (v569 : Value).ownBlock) ho0 (fun k_ hk_ => ⟨(Kd.fresh' (Kd.N_lt (by exact HO_4.out)) k_ hk_), (Kd.fresh' (Kd.N_lt (by exact HO_6.out)) k_ hk_)⟩)) (below_size zB)); replace HO_4 := zA (Kd.N_elder' (by exact HO_4.out) (Kd.N_base ho0) hb); replace HO_6 := zA (Kd.N_elder' (by exact HO_6.out) (Kd.N_base ho0) hb); replace HB := zA (below_step zB hb); (try clear hb); (try clear hb2); (try clear hk); (try clear hi); (try clear ho0)) | (go_at_call 8; (with_reducible refine (impl_ProductOfWord.calls k9 t563 _ _ t564 (t567.extract (x40_9 : Int).toNat t567.size) t643 t646 _ ?side1 ?side2 A119.out).mono ?_); (case side1 => repeat (exact (Kd.N_reads' HO_4.out).2.2)); (case side2 => exact (Kd.N_reads' HO_4.out).2.1); rintro e w145 ⟨v644, rfl, ho0, hb⟩; have HO645 := zA (Kd.N_lower (Kd.N_mono (ok' := fun k_ => some k_ ≠ (.slice Ao9 t564.length co9 : Value).ownBlock ∧ some k_ ≠ (v569 : Value).ownBlock ∧ some k_ ≠ (v640 : Value).ownBlock) ho0 (fun k_ hk_ => ⟨(Kd.fresh' (Kd.N_lt (by exact HO_4.out)) k_ hk_), (Kd.fresh' (Kd.N_lt (by exact HO_6.out)) k_ hk_), (Kd.fresh' (Kd.N_lt (by exact HO641.out)) k_ hk_)⟩)) (below_size zB)); replace HO_4 := zA (Kd.N_elder' (by exact HO_4.out) (Kd.N_base ho0) hb); replace HO_6 := zA (Kd.N_elder' (by exact HO_6.out) (Kd.N_base ho0) hb); replace HO641 := zA (Kd.N_elder' (by exact HO641.out) (Kd.N_base ho0) hb); replace HB := zA (below_step zB hb); (try clear hb); (try clear hb2); (try clear hk); (try clear hi); (try clear ho0)))

                                go_roundg k9
                                case measure => have := HJ6.out; have := HJ25.out; have := HJ34.out; have := HJ42.out; have := HK5.out; have := HJ62.out; have := HJ75.out; have := HJ92.out; have := HK9.out; omega
                                case rel => exact ⟨(wrap64 (x40_9 + 1)), (by rfl), H', ⟨by have := HJ6.out; have := HJ25.out; have := HJ34.out; have := HJ42.out; have := HK5.out; have := HJ62.out; have := HJ75.out; have := HJ92.out; have := HK9.out; omega⟩, ⟨by exact Kd.N_mono HO_4.out (fun _ hk => hk.1.1)⟩, ⟨by exact Kd.N_mono HO_6.out (fun _ hk => hk.1.1)⟩, ⟨zB⟩⟩
                              ·rw [if_neg c120] at H
                               have c120b0 : (t642 == 0) = false := beq_eq_false_iff_ne.mpr c120
                               have c120b1 : (t642 != 0) = true := bne_iff_ne.mpr c120
                               obtain rfl := Option.some.inj H
                               go_wp2_with (first | (go_at_call 8; (with_reducible refine (impl_ProductOfWord.calls k9 t563 _ _ t564 (t567.extract 0 (x40_9 : Int).toNat) t639 t642 _ ?side1 ?side2 A116.out).mono ?_); (case side1 => repeat (exact (Kd.N_reads' HO_4.out).2.2)); (case side2 => exact (Kd.N_reads' HO_4.out).2.1); rintro e w146 ⟨v640, rfl, ho0, hb⟩; have HO641 := zA (Kd.N_lower (Kd.N_mono (ok' := fun k_ => some k_ ≠ (.slice Ao9 t564.length co9 : Value).ownBlock ∧ some k_ ≠ (v569 : Value).ownBlock) ho0 (fun k_ hk_ => ⟨(Kd.fresh' (Kd.N_lt (by exact HO_4.out)) k_ hk_), (Kd.fresh' (Kd.N_lt (by exact HO_6.out)) k_ hk_)⟩)) (below_size zB)); replace HO_4 := zA (Kd.N_elder' (by exact HO_4.out) (Kd.N_base ho0) hb); replace HO_6 := zA (Kd.N_elder' (by exact HO_6.out) (Kd.N_base ho0) hb); replace HB := zA (below_step zB hb); (try clear hb); (try clear hb2); (try clear hk); (try clear hi); (try clear ho0)) | (go_at_call 8; (with_reducible refine (impl_ProductOfWord.calls k9 t563 _ _ t564 (t567.extract (x40_9 : Int).toNat t567.size) t643 t646 _ ?side1 ?side2 A119.out).mono ?_); (case side1 => repeat (exact (Kd.N_reads' HO_4.out).2.2)); (case side2 => exact (Kd.N_reads' HO_4.out).2.1); rintro e w147 ⟨v644, rfl, ho0, hb⟩; have HO645 := zA (Kd.N_lower (Kd.N_mono (ok' := fun k_ => some k_ ≠ (.slice Ao9 t564.length co9 : Value).ownBlock ∧ some k_ ≠ (v569 : Value).ownBlock ∧ some k_ ≠ (v640 : Value).ownBlock) ho0 (fun k_ hk_ => ⟨(Kd.fresh' (Kd.N_lt (by exact HO_4.out)) k_ hk_), (Kd.fresh' (Kd.N_lt (by exact HO_6.out)) k_ hk_), (Kd.fresh' (Kd.N_lt (by exact HO641.out)) k_ hk_)⟩)) (below_size zB)); replace HO_4 := zA (Kd.N_elder' (by exact HO_4.out) (Kd.N_base ho0) hb); replace HO_6 := zA (Kd.N_elder' (by exact HO_6.out) (Kd.N_base ho0) hb); replace HO641 := zA (Kd.N_elder' (by exact HO641.out) (Kd.N_base ho0) hb); replace HB := zA (below_step zB hb); (try clear hb); (try clear hb2); (try clear hk); (try clear hi); (try clear ho0)))

                               go_ret
                               exact ⟨by rfl, zB⟩
                             ·rw [if_neg c114] at H
                              exact absurd H (by simp)
                            ·rw [if_neg c113] at H
                             have c113b0 : decide (x40_9 ≤ (t567.size : Int)) = false := decide_eq_false c113
                             clear c113
                             obtain rfl := Option.some.inj H
                             go_wp2
                             repeat (go_quiet (fail); try go_wp2)
                             go_ret
                             exact ⟨by rfl, zB⟩
                         ·rw [if_neg c112] at H
                          have c112b0 : (t571 == 0) = false := beq_eq_false_iff_ne.mpr c112
                          have c112b1 : (t571 != 0) = true := bne_iff_ne.mpr c112
                          obtain rfl := Option.some.inj H
                          obtain ⟨Ao148, co148, eo148⟩ := Kd.N_slice HO_6.out
                          subst eo148
                          go_wp2
                          repeat (go_quiet (fail); try go_wp2)
                          go_ret
                          exact ⟨by rfl, zB⟩

theorem laws_FnTables.walk (P : laws_FnTables.Pure) (a0 : Option Addr) (len0 cap0 : Nat) (z0 : List Int) (w : World) (w0 : (a0 = none ∧ len0 = 0 ∧ cap0 = 0 ∧ z0 = []) ∨ ∃ x, a0 = some x ∧ len0 ≤ cap0 ∧ cap0 ≤ maxLen ∧ z0.length = cap0 ∧ (∀ i, i < z0.length → w.cell? (x.add i) = some (.int .u8 (z0.getD i 0))) ∧ ∀ n ∈ z0, (Lit.int .u8 n).wf = true) (y0 : len0 * 1 ≤ 140737488351232) :
 Calls Try.prog 3 #[.slice a0 len0 cap0] w fun e w' => e = .returned (.bool true) ∧ Below w.heap.size w w' := by
 obtain ⟨l0, rfl, hr0, hm0, hw0, hc0⟩ := ReadsInt.ofRowC w0
 obtain ⟨k, h⟩ := P l0 hm0 y0 hw0
 refine (laws_FnTables.calls k _ _ l0 true w (Kd.C_of_reads (d := (0 : Int)) (h1 := fun _ => rfl) hr0) hc0 h).mono ?_
 rintro e w' ⟨rfl, hd⟩
 exact ⟨rfl, hd⟩

end Go.Proofs.Ytkbneilobaehkaa.P
