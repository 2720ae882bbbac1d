/- What a call of each Go function named below comes to is what the plain Lean function beside it says. Made by a program of this session out of the print of the translation; Lean checks it. -/
import Derived.Test.YtkbneilobaehkaaPx0
import Derived.Test.YtkbneilobaehkaaPx1
import Derived.Test.YtkbneilobaehkaaPx4
import Derived.Test.YtkbneilobaehkaaPx7
import Derived.Test.YtkbneilobaehkaaPx11
import Derived.Test.YtkbneilobaehkaaPx12
import Derived.Test.YtkbneilobaehkaaPx13
import Derived.Test.YtkbneilobaehkaaPx14
import Derived.Test.YtkbneilobaehkaaPx16
import Derived.Test.YtkbneilobaehkaaPx17
import Derived.Test.YtkbneilobaehkaaPx18
import Derived.Test.YtkbneilobaehkaaPx19
namespace Go.Proofs.Ytkbneilobaehkaa.P
open Go.RowKit Go.Proofs.YtkbneilobaehkaaW.PrintWords Go.Proofs.YtkbneilobaehkaaW.PrintLast Go.Proofs.YtkbneilobaehkaaW.PrintMore
attribute [local go_sem] max2_int min2_int max_two min_two max_three min_three max_four min_four   -- for this text's walks alone
set_option linter.unusedVariables false
set_option linter.unusedSimpArgs false


/-! ### laws_FnTables: function 3 -/
mutual
def laws_FnTables.j0 : Nat → List Int → Int → List (List (List Int)) → ByteArray → List (List Int) → Int → Bool → Option (Bool)
  | 0, _, _, _, _, _, _, _ => none
  | k + 1, x0, x3, x4, x5, x6, x7, x88 => if x88 = true then (some false) else ((spec_DrawVanishAt.f k x0).bind fun bt579 => ((impl_VanishAt.f k bt579.1 bt579.2.1 bt579.2.2).bind fun bt584 => ((spec_VanishAt.f k bt579.1 bt579.2.1 bt579.2.2).bind fun bt586 => (if bt584.2 = bt586.2 then (laws_FnTables.j1 k x0 x3 x4 x5 x6 x7 (bt584.1 != bt586.1)) else (laws_FnTables.j1 k x0 x3 x4 x5 x6 x7 true)))))
def laws_FnTables.j1 : Nat → List Int → Int → List (List (List Int)) → ByteArray → List (List Int) → Int → Bool → Option (Bool)
  | 0, _, _, _, _, _, _, _ => none
  | k + 1, x0, x3, x4, x5, x6, x7, x116 => if x116 = true then (some false) else ((impl_DoTablesCommute.f k x3 x4).bind fun bt588 => ((spec_DoTablesCommute.f k x3 x4).bind fun bt590 => (if bt588.2 = bt590.2 then (laws_FnTables.j2 k x0 x3 x4 x5 x6 x7 (bt588.1 != bt590.1)) else (laws_FnTables.j2 k x0 x3 x4 x5 x6 x7 true))))
def laws_FnTables.j2 : Nat → List Int → Int → List (List (List Int)) → ByteArray → List (List Int) → Int → Bool → Option (Bool)
  | 0, _, _, _, _, _, _, _ => none
  | k + 1, x0, x3, x4, x5, x6, x7, x136 => if x136 = true then (some false) else ((spec_DrawTablesOfWord.f k x0).bind fun bt592 => ((impl_TablesOfWord.f k bt592.1 bt592.2).bind fun bt594 => ((spec_TablesOfWord.f k bt592.1 bt592.2).bind fun bt598 => (if bt594.2 = bt598.2 then (laws_FnTables.j3 k x0 x3 x4 x5 x6 x7 bt592.1 bt592.2 bt594.1 bt594.2 bt598.1 ((bt594.1.length : Int) != (bt598.1.length : Int))) else (laws_FnTables.j3 k x0 x3 x4 x5 x6 x7 bt592.1 bt592.2 bt594.1 bt594.2 bt598.1 true)))))
def laws_FnTables.j3 : Nat → List Int → Int → List (List (List Int)) → ByteArray → List (List Int) → Int → Int → ByteArray → List (List (List Int)) → Int → List (List (List Int)) → Bool → Option (Bool)
  | 0, _, _, _, _, _, _, _, _, _, _, _, _ => none
  | k + 1, x0, x3, x4, x5, x6, x7, x21, x22, x23, x24, x25, x163 => if x163 = true then (some false) else (laws_FnTables.l0 k x0 x3 x4 x5 x6 x7 x21 x22 x23 x24 x25 0)
def laws_FnTables.l0 : Nat → List Int → Int → List (List (List Int)) → ByteArray → List (List Int) → Int → Int → ByteArray → List (List (List Int)) → Int → List (List (List Int)) → Int → Option (Bool)
  | 0, _, _, _, _, _, _, _, _, _, _, _, _ => none
  | k + 1, x0, x3, x4, x5, x6, x7, x21, x22, x23, x24, x25, x27 => if x27 < (x23.length : Int) then (if 0 ≤ x27 then (if x27 < (x25.length : Int) then ((laws_lists9.f k (rd_L4 x23 x27) (rd_L4 x25 x27)).bind fun t604 => (if t604 = true then (laws_FnTables.l0 k x0 x3 x4 x5 x6 x7 x21 x22 x23 x24 x25 (wrap64 (x27 + 1))) else (some false))) else (none)) else (none)) else ((spec_DrawTableCommutator.f k x0).bind fun bt605 => ((impl_TableCommutator.f k bt605.1 bt605.2.1 bt605.2.2.1 bt605.2.2.2).bind fun bt611 => ((spec_TableCommutator.f k bt605.1 bt605.2.1 bt605.2.2.1 bt605.2.2.2).bind fun bt615 => (if bt611.2 = bt615.2 then ((laws_lists9.f k bt611.1 bt615.1).bind fun t619 => (laws_FnTables.j5 k x3 x4 x5 x6 x7 x21 x22 x23 x24 (!t619))) else (laws_FnTables.j5 k x3 x4 x5 x6 x7 x21 x22 x23 x24 true)))))
def laws_FnTables.j5 : Nat → Int → List (List (List Int)) → ByteArray → List (List Int) → Int → Int → ByteArray → List (List (List Int)) → Int → Bool → Option (Bool)
  | 0, _, _, _, _, _, _, _, _, _, _ => none
  | k + 1, x3, x4, x5, x6, x7, x21, x22, x23, x24, x211 => if x211 = true then (some false) else ((impl_TurnTables.f).bind fun t620 => ((spec_TurnTables.f).bind fun t623 => (if (t620.length : Int) = 2 then (if 0 < (t620.length : Int) then (if 0 < (t623.length : Int) then ((laws_lists9.f k (rd_L4 t620 0) (rd_L4 t623 0)).bind fun t628 => (if t628 = true then (if 1 < (t620.length : Int) then (if 1 < (t623.length : Int) then ((laws_lists9.f k (rd_L4 t620 1) (rd_L4 t623 1)).bind fun t631 => (laws_FnTables.j6 k x3 x4 x5 x6 x7 x21 x22 x23 x24 (!t631))) else (none)) else (none)) else (laws_FnTables.j6 k x3 x4 x5 x6 x7 x21 x22 x23 x24 true))) else (none)) else (none)) else (laws_FnTables.j6 k x3 x4 x5 x6 x7 x21 x22 x23 x24 true))))
def laws_FnTables.j6 : Nat → Int → List (List (List Int)) → ByteArray → List (List Int) → Int → Int → ByteArray → List (List (List Int)) → Int → Bool → Option (Bool)
  | 0, _, _, _, _, _, _, _, _, _, _ => none
  | k + 1, x3, x4, x5, x6, x7, x21, x22, x23, x24, x236 => if x236 = true then (some false) else (if x24 = 0 then ((impl_ProductOfWord.f k x21 x23 x22).bind fun bt632 => (if bt632.2 = 0 then (if 0 < (bt632.1.length : Int) then (if 0 ≤ (x22.size : Int) then (if (x22.size : Int) < ((rd_L3 bt632.1 0).length : Int) then (if (rd (rd_L3 bt632.1 0) (x22.size : Int)) = 1 then ((impl_AreTables.f x21 x23).bind fun t638 => (if t638 = true then (laws_FnTables.j7 k x3 x4 x5 x6 x7) else (some false))) else (some false)) else (none)) else (none)) else (none)) else (some false))) else (laws_FnTables.j7 k x3 x4 x5 x6 x7))
def laws_FnTables.j7 : Nat → Int → List (List (List Int)) → ByteArray → List (List Int) → Int → Option (Bool)
  | 0, _, _, _, _, _ => none
  | k + 1, x3, x4, x5, x6, x7 => if x7 = 0 then (laws_FnTables.l1 k x3 x4 x5 x6 0) else (some ((x6.length : Int) == 0))
def laws_FnTables.l1 : Nat → Int → List (List (List Int)) → ByteArray → List (List Int) → Int → Option (Bool)
  | 0, _, _, _, _, _ => none
  | k + 1, x3, x4, x5, x6, x40 => if x40 ≤ (x5.size : Int) then (if 0 ≤ x40 then ((impl_ProductOfWord.f k x3 x4 (x5.extract 0 (x40 : Int).toNat)).bind fun bt639 => ((impl_ProductOfWord.f k x3 x4 (x5.extract (x40 : Int).toNat x5.size)).bind fun bt643 => (if bt639.2 = 0 then (if bt643.2 = 0 then (laws_FnTables.l2 k x3 x4 x5 x6 x40 bt639.1 bt643.1 0) else (laws_FnTables.l1 k x3 x4 x5 x6 (wrap64 (x40 + 1)))) else (some false)))) else (none)) else (some true)
def laws_FnTables.l2 : Nat → Int → List (List (List Int)) → ByteArray → List (List Int) → Int → List (List Int) → List (List Int) → Int → Option (Bool)
  | 0, _, _, _, _, _, _, _, _ => none
  | k + 1, x3, x4, x5, x6, x40, x41, x43, x45 => if x45 < (x41.length : Int) then (laws_FnTables.l3 k x3 x4 x5 x6 x40 x41 x43 x45 0) else (laws_FnTables.l1 k x3 x4 x5 x6 (wrap64 (x40 + 1)))
def laws_FnTables.l3 : Nat → Int → List (List (List Int)) → ByteArray → List (List Int) → Int → List (List Int) → List (List Int) → Int → Int → Option (Bool)
  | 0, _, _, _, _, _, _, _, _, _ => none
  | k + 1, x3, x4, x5, x6, x40, x41, x43, x45, x46 => if x46 < (x41.length : Int) then (laws_FnTables.l4 k x3 x4 x5 x6 x40 x41 x43 x45 x46 0 0) else (laws_FnTables.l2 k x3 x4 x5 x6 x40 x41 x43 (wrap64 (x45 + 1)))
def laws_FnTables.l4 : Nat → Int → List (List (List Int)) → ByteArray → List (List Int) → Int → List (List Int) → List (List Int) → Int → Int → Int → Int → Option (Bool)
  | 0, _, _, _, _, _, _, _, _, _, _, _ => none
  | k + 1, x3, x4, x5, x6, x40, x41, x43, x45, x46, x47, x48 => if x48 < (x41.length : Int) then (if 0 ≤ x45 then (if x45 < (x41.length : Int) then (if 0 ≤ x48 then (if x48 < ((rd_L3 x41 x45).length : Int) then (if x48 < (x43.length : Int) then (if 0 ≤ x46 then (if x46 < ((rd_L3 x43 x48).length : Int) then (laws_FnTables.l4 k x3 x4 x5 x6 x40 x41 x43 x45 x46 (wrap64 (x47 + (wrap64 ((rd (rd_L3 x41 x45) x48) * (rd (rd_L3 x43 x48) x46))))) (wrap64 (x48 + 1))) else (none)) else (none)) else (none)) else (none)) else (none)) else (none)) else (none)) else (if 0 ≤ x45 then (if x45 < (x6.length : Int) then (if 0 ≤ x46 then (if x46 < ((rd_L3 x6 x45).length : Int) then (if x47 = (rd (rd_L3 x6 x45) x46) then (laws_FnTables.l3 k x3 x4 x5 x6 x40 x41 x43 x45 (wrap64 (x46 + 1))) else (some false)) else (none)) else (none)) else (none)) else (none))
end
def laws_FnTables.f (k : Nat) (l0 : List Int) : Option (Bool) := (laws_big.f l0).bind fun t562 => (if t562 = true then (some true) else ((spec_DrawProductOfWord.f k l0).bind fun bt563 => ((impl_ProductOfWord.f k bt563.1 bt563.2.1 bt563.2.2).bind fun bt568 => ((spec_ProductOfWord.f k bt563.1 bt563.2.1 bt563.2.2).bind fun bt572 => (if bt568.2 = bt572.2 then ((laws_lists9.f k bt568.1 bt572.1).bind fun t576 => (if t576 = true then ((impl_AreTables.f bt563.1 bt563.2.1).bind fun t577 => ((spec_AreTables.f k bt563.1 bt563.2.1).bind fun t578 => (laws_FnTables.j0 k l0 bt563.1 bt563.2.1 bt563.2.2 bt568.1 bt568.2 (t577 != t578)))) else (laws_FnTables.j0 k l0 bt563.1 bt563.2.1 bt563.2.2 bt568.1 bt568.2 true))) else (laws_FnTables.j0 k l0 bt563.1 bt563.2.1 bt563.2.2 bt568.1 bt568.2 true))))))
/-- THE ONE PURE STATEMENT of laws_FnTables: yours. -/
def laws_FnTables.Pure : Prop := ∀ (l0 : List Int), l0.length ≤ maxLen → l0.length * 1 ≤ 140737488351232 → (∀ x ∈ l0, (Lit.int .u8 x).wf = true) → ∃ k, laws_FnTables.f k l0 = some true

end Go.Proofs.Ytkbneilobaehkaa.P
