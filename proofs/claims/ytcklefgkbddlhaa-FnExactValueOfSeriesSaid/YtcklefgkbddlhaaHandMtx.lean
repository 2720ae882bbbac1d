/- A matrix of fractions of the call's own: a cell of it is read, and written in place. -/
import Derived.Test.YtcklefgkbddlhaaPx0
namespace Go.Proofs.Ytcklefgkbddlhaa.Hand
open Go.RowKit Go.Proofs.Ytcklefgkbddlhaa.P Go.Proofs.YtcklefgkbddlhaaW.PrintWords Go.Proofs.YtcklefgkbddlhaaW.PrintLast Go.Proofs.YtcklefgkbddlhaaW.PrintMore
set_option linter.unusedSimpArgs false
set_option linter.unusedVariables false
theorem S_cell {W : World} {base g n cap : Nat} {ok : Nat → Prop} {xs : List (List S27)} (h : Kd.S (Kd.slice 27 k27) 77 W base ok (.slice (some ⟨g, 0, none⟩) n cap) xs) (i j : Int) (hi0 : 0 ≤ i) (hi : i < xs.length) (hj0 : 0 ≤ j) (hj : j < (rd_L8 xs i).length) :
    ∃ gi ci, W.cell? ⟨g, i.toNat, none⟩ = some (.slice (some ⟨gi, 0, none⟩) (rd_L8 xs i).length ci) ∧ ok gi ∧ gi ≠ g ∧ base ≤ gi ∧ gi < W.heap.size ∧ W.cell? ⟨gi, j.toNat * 2, none⟩ = some (.int .i64 (rd_T27 (rd_L8 xs i) j).f0) ∧ W.cell? ⟨gi, j.toNat * 2 + 1, none⟩ = some (.int .i64 (rd_T27 (rd_L8 xs i) j).f1) ∧ (∀ q, W.frozen? ⟨gi, q, none⟩ = false) ∧ (∃ cells, W.heap[gi]? = some (.cells cells 27 (0, 0))) ∧
      ∀ a b, Kd.S (Kd.slice 27 k27) 77 ((W.setCell ⟨gi, j.toNat * 2, none⟩ (.int .i64 a)).setCell ⟨gi, j.toNat * 2 + 1, none⟩ (.int .i64 b)) base ok (.slice (some ⟨g, 0, none⟩) n cap) (xs.set i.toNat ((rd_L8 xs i).set j.toNat ⟨a, b⟩)) := by
  have hn := (Kd.S_reads' h).1
  obtain ⟨oki, c, hcl, hM, hcc, hoki, hback⟩ := Kd.S_borrow h ([] : List S27) i hi0 (by omega)
  obtain ⟨v, rfl, hR⟩ := hM
  have hx := hcc 0 _ rfl
  rw [add_at, Nat.zero_add, show (Kd.slice 27 k27).sz = 1 from rfl, Nat.mul_one, Nat.add_zero] at hx
  obtain ⟨gi, ci, ev, hb, hl, hcells⟩ := Kd.R_form hR (show 0 < (rd_L8 xs i).length by omega)
  subst ev
  obtain ⟨ce, hel, hMe, hce, hfe⟩ := Kd.R_elem hR z27 j hj0 (show j < ((xs.getD i.toNat []).length : Int) from hj)
  obtain rfl := k27_openM hMe
  have hgi : oki gi := hR.1 gi (by simp [Value.ownBlock])
  have hne : gi ≠ g := fun e => (hoki gi hgi).2 (by rw [e]; simp [Value.ownBlock])
  obtain ⟨cells, hcells⟩ := hcells
  refine ⟨gi, ci, hx, (hoki gi hgi).1, hne, hb, hl, hce 0 _ rfl, hce 1 _ rfl, fun q => blk_frozen hcells q, ⟨cells, hcells⟩, fun a b => ?_⟩
  have hs := Kd.R_seg hR j hj0 (show j < ((xs.getD i.toNat []).length : Int) from hj) (seg := [.int .i64 a, .int .i64 b]) (j := 0) hel hce (show 2 ≤ 2 from Nat.le_refl _) (x' := ⟨a, b⟩) (okp := fun _ => False) (by
    have e : List.take 0 ([.int .i64 (rd_T27 (rd_L8 xs i) j).f0, .int .i64 (rd_T27 (rd_L8 xs i) j).f1] : List Value) ++ [Value.int .i64 a, .int .i64 b] ++ List.drop (0 + [Value.int .i64 a, .int .i64 b].length) ([.int .i64 (rd_T27 (rd_L8 xs i) j).f0, .int .i64 (rd_T27 (rd_L8 xs i) j).f1] : List Value) = [.int .i64 a, .int .i64 b] := rfl
    exact e ▸ k27_mkM _ _ _ ⟨a, b⟩) (fun _ hk => hk.elim)
  exact hback hs.2 (fun k hk => by cases hk; exact hgi) ⟨_, rfl, hs.1⟩
end Go.Proofs.Ytcklefgkbddlhaa.Hand
