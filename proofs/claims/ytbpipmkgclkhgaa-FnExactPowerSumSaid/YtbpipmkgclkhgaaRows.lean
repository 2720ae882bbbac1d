/-
  No cell of these rows narrows 'for every input' (looked for: loops, veiled, ifaces, maps, wideKeys, modest, calm, conditions, laid).
  DERIVED. THE GIVEN ROWS OF THIS SEAT. 12 by the template 'for every input the law returns true; each argument reads behind the call as it read before'; 0 by the template 'total and deterministic' (their statements: YtbpipmkgclkhgaaTotals.lean).
  GIVEN WITH THE SEED: the statements are not yours to turn. If you find one false, say at which input.
  Laid BY PROGRAM, IN A SANDBOX (cutbox-rows.mjs): the forced cells as the released guide's own fill.sh prints them over the translation 98b0fa2d044329d4… (all of the seat's roots in one cut). By AI agents, Wed Nov 11 2026. No macro, syntax, notation, axiom, sorry.
-/
import Derived.Test.YtbpipmkgclkhgaaChecked
import GoSem.Claim
import GoSem.ClaimJoined
import GoSem.ClaimMapViews
import Derived.JoinedTies
import Derived.KernelRfl
namespace Go.Proofs.Ytbpipmkgclkhgaa
/- THE CELL 'sum', in the pinned program and in every row, IS THE sha256 OF THE DUMP (.gsa) THAT YtbpipmkgclkhgaaProg.lean LOADS. Nothing in Lean hashes anything: it is a label: what it is worth is what the hold of that sum in a sandbox is worth. -/
noncomputable def Try.pinned : Pinned := { name := "ytbpipmkgclkhgaa", sum := "98b0fa2d044329d4c54920482aefbf1022b9903e201f188a673684bfac7da749", checked := Try.checked }
namespace Rows
def none {H : Type} : Left H := { results := [], args := [] }

/-- 'laws.FnExactTurnTables': WHATEVER THE INPUT: true; the input reads as it did. -/
def fnExactTurnTablesSpec : ChangeSpec := { name := "fnExactTurnTables", fn := fun _ => fun
  | [] => { results := [.lit (.bool true)], args := [] }
  | _ => none }
def fnExactTurnTablesRow : OpenClaim := { program := "ytbpipmkgclkhgaa", sum := "98b0fa2d044329d4c54920482aefbf1022b9903e201f188a673684bfac7da749", func := "loop.example/g01260/laws.FnExactTurnTables", spec := "fnExactTurnTables", apart := false }
def FnExactTurnTablesSaid : Prop := fnExactTurnTablesRow.holds Try.pinned (OpenSpec.ofChange fnExactTurnTablesSpec)

/-- ITS FALSE NEIGHBOUR: 'it returns false'. Refute it at one input. -/
def fnExactTurnTablesWrong : ChangeSpec := { name := "fnExactTurnTables", fn := fun _ => fun
  | [] => { results := [.lit (.bool false)], args := [] }
  | _ => none }
def FnExactTurnTablesWrongFalsely : Prop := fnExactTurnTablesRow.holds Try.pinned (OpenSpec.ofChange fnExactTurnTablesWrong)

/-- 'laws.FnExactAreTables': WHATEVER THE INPUT: true; the input reads as it did. -/
def fnExactAreTablesSpec : ChangeSpec := { name := "fnExactAreTables", fn := fun _ => fun
  | [d1, d2] => { results := [.lit (.bool true)], args := [d1, d2] }
  | _ => none }
def fnExactAreTablesRow : OpenClaim := { program := "ytbpipmkgclkhgaa", sum := "98b0fa2d044329d4c54920482aefbf1022b9903e201f188a673684bfac7da749", func := "loop.example/g01260/laws.FnExactAreTables", spec := "fnExactAreTables", unfollowed := true, recurses := true, apart := false }
def FnExactAreTablesSaid : Prop := fnExactAreTablesRow.holds Try.pinned (OpenSpec.ofChange fnExactAreTablesSpec)

/-- ITS FALSE NEIGHBOUR: 'it returns false'. Refute it at one input. -/
def fnExactAreTablesWrong : ChangeSpec := { name := "fnExactAreTables", fn := fun _ => fun
  | [d1, d2] => { results := [.lit (.bool false)], args := [d1, d2] }
  | _ => none }
def FnExactAreTablesWrongFalsely : Prop := fnExactAreTablesRow.holds Try.pinned (OpenSpec.ofChange fnExactAreTablesWrong)

/-- 'laws.FnExactTablesOfWord': WHATEVER THE INPUT: true; the input reads as it did. -/
def fnExactTablesOfWordSpec : ChangeSpec := { name := "fnExactTablesOfWord", fn := fun _ => fun
  | [d1, d2] => { results := [.lit (.bool true)], args := [d1, d2] }
  | _ => none }
def fnExactTablesOfWordRow : OpenClaim := { program := "ytbpipmkgclkhgaa", sum := "98b0fa2d044329d4c54920482aefbf1022b9903e201f188a673684bfac7da749", func := "loop.example/g01260/laws.FnExactTablesOfWord", spec := "fnExactTablesOfWord", apart := false }
def FnExactTablesOfWordSaid : Prop := fnExactTablesOfWordRow.holds Try.pinned (OpenSpec.ofChange fnExactTablesOfWordSpec)

/-- ITS FALSE NEIGHBOUR: 'it returns false'. Refute it at one input. -/
def fnExactTablesOfWordWrong : ChangeSpec := { name := "fnExactTablesOfWord", fn := fun _ => fun
  | [d1, d2] => { results := [.lit (.bool false)], args := [d1, d2] }
  | _ => none }
def FnExactTablesOfWordWrongFalsely : Prop := fnExactTablesOfWordRow.holds Try.pinned (OpenSpec.ofChange fnExactTablesOfWordWrong)

/-- 'laws.FnExactDoTablesCommute': WHATEVER THE INPUT: true; the input reads as it did. -/
def fnExactDoTablesCommuteSpec : ChangeSpec := { name := "fnExactDoTablesCommute", fn := fun _ => fun
  | [d1, d2] => { results := [.lit (.bool true)], args := [d1, d2] }
  | _ => none }
def fnExactDoTablesCommuteRow : OpenClaim := { program := "ytbpipmkgclkhgaa", sum := "98b0fa2d044329d4c54920482aefbf1022b9903e201f188a673684bfac7da749", func := "loop.example/g01260/laws.FnExactDoTablesCommute", spec := "fnExactDoTablesCommute", unfollowed := true, recurses := true, apart := false }
def FnExactDoTablesCommuteSaid : Prop := fnExactDoTablesCommuteRow.holds Try.pinned (OpenSpec.ofChange fnExactDoTablesCommuteSpec)

/-- ITS FALSE NEIGHBOUR: 'it returns false'. Refute it at one input. -/
def fnExactDoTablesCommuteWrong : ChangeSpec := { name := "fnExactDoTablesCommute", fn := fun _ => fun
  | [d1, d2] => { results := [.lit (.bool false)], args := [d1, d2] }
  | _ => none }
def FnExactDoTablesCommuteWrongFalsely : Prop := fnExactDoTablesCommuteRow.holds Try.pinned (OpenSpec.ofChange fnExactDoTablesCommuteWrong)

/-- 'laws.FnExactTableCommutator': WHATEVER THE INPUT: true; the input reads as it did. -/
def fnExactTableCommutatorSpec : ChangeSpec := { name := "fnExactTableCommutator", fn := fun _ => fun
  | [d1, d2, d3, d4] => { results := [.lit (.bool true)], args := [d1, d2, d3, d4] }
  | _ => none }
def fnExactTableCommutatorRow : OpenClaim := { program := "ytbpipmkgclkhgaa", sum := "98b0fa2d044329d4c54920482aefbf1022b9903e201f188a673684bfac7da749", func := "loop.example/g01260/laws.FnExactTableCommutator", spec := "fnExactTableCommutator", unfollowed := true, recurses := true, apart := false }
def FnExactTableCommutatorSaid : Prop := fnExactTableCommutatorRow.holds Try.pinned (OpenSpec.ofChange fnExactTableCommutatorSpec)

/-- ITS FALSE NEIGHBOUR: 'it returns false'. Refute it at one input. -/
def fnExactTableCommutatorWrong : ChangeSpec := { name := "fnExactTableCommutator", fn := fun _ => fun
  | [d1, d2, d3, d4] => { results := [.lit (.bool false)], args := [d1, d2, d3, d4] }
  | _ => none }
def FnExactTableCommutatorWrongFalsely : Prop := fnExactTableCommutatorRow.holds Try.pinned (OpenSpec.ofChange fnExactTableCommutatorWrong)

/-- 'laws.FnExactVanishAt': WHATEVER THE INPUT: true; the input reads as it did. -/
def fnExactVanishAtSpec : ChangeSpec := { name := "fnExactVanishAt", fn := fun _ => fun
  | [d1, d2, d3] => { results := [.lit (.bool true)], args := [d1, d2, d3] }
  | _ => none }
def fnExactVanishAtRow : OpenClaim := { program := "ytbpipmkgclkhgaa", sum := "98b0fa2d044329d4c54920482aefbf1022b9903e201f188a673684bfac7da749", func := "loop.example/g01260/laws.FnExactVanishAt", spec := "fnExactVanishAt", unfollowed := true, recurses := true, apart := false }
def FnExactVanishAtSaid : Prop := fnExactVanishAtRow.holds Try.pinned (OpenSpec.ofChange fnExactVanishAtSpec)

/-- ITS FALSE NEIGHBOUR: 'it returns false'. Refute it at one input. -/
def fnExactVanishAtWrong : ChangeSpec := { name := "fnExactVanishAt", fn := fun _ => fun
  | [d1, d2, d3] => { results := [.lit (.bool false)], args := [d1, d2, d3] }
  | _ => none }
def FnExactVanishAtWrongFalsely : Prop := fnExactVanishAtRow.holds Try.pinned (OpenSpec.ofChange fnExactVanishAtWrong)

/-- 'laws.FnExactProductOfWord': WHATEVER THE INPUT: true; the input reads as it did. -/
def fnExactProductOfWordSpec : ChangeSpec := { name := "fnExactProductOfWord", fn := fun _ => fun
  | [d1, d2, d3] => { results := [.lit (.bool true)], args := [d1, d2, d3] }
  | _ => none }
def fnExactProductOfWordRow : OpenClaim := { program := "ytbpipmkgclkhgaa", sum := "98b0fa2d044329d4c54920482aefbf1022b9903e201f188a673684bfac7da749", func := "loop.example/g01260/laws.FnExactProductOfWord", spec := "fnExactProductOfWord", unfollowed := true, recurses := true, apart := false }
def FnExactProductOfWordSaid : Prop := fnExactProductOfWordRow.holds Try.pinned (OpenSpec.ofChange fnExactProductOfWordSpec)

/-- ITS FALSE NEIGHBOUR: 'it returns false'. Refute it at one input. -/
def fnExactProductOfWordWrong : ChangeSpec := { name := "fnExactProductOfWord", fn := fun _ => fun
  | [d1, d2, d3] => { results := [.lit (.bool false)], args := [d1, d2, d3] }
  | _ => none }
def FnExactProductOfWordWrongFalsely : Prop := fnExactProductOfWordRow.holds Try.pinned (OpenSpec.ofChange fnExactProductOfWordWrong)

/-- 'laws.FnExactPowerSum': WHATEVER THE INPUT: true; the input reads as it did. -/
def fnExactPowerSumSpec : ChangeSpec := { name := "fnExactPowerSum", fn := fun _ => fun
  | [d1, d2] => { results := [.lit (.bool true)], args := [d1, d2] }
  | _ => none }
def fnExactPowerSumRow : OpenClaim := { program := "ytbpipmkgclkhgaa", sum := "98b0fa2d044329d4c54920482aefbf1022b9903e201f188a673684bfac7da749", func := "loop.example/g01260/laws.FnExactPowerSum", spec := "fnExactPowerSum", unfollowed := true, recurses := true, apart := false }
def FnExactPowerSumSaid : Prop := fnExactPowerSumRow.holds Try.pinned (OpenSpec.ofChange fnExactPowerSumSpec)

/-- ITS FALSE NEIGHBOUR: 'it returns false'. Refute it at one input. -/
def fnExactPowerSumWrong : ChangeSpec := { name := "fnExactPowerSum", fn := fun _ => fun
  | [d1, d2] => { results := [.lit (.bool false)], args := [d1, d2] }
  | _ => none }
def FnExactPowerSumWrongFalsely : Prop := fnExactPowerSumRow.holds Try.pinned (OpenSpec.ofChange fnExactPowerSumWrong)

/-- 'laws.FnExactWithoutRests': WHATEVER THE INPUT: true; the input reads as it did. -/
def fnExactWithoutRestsSpec : ChangeSpec := { name := "fnExactWithoutRests", fn := fun _ => fun
  | [d1, d2] => { results := [.lit (.bool true)], args := [d1, d2] }
  | _ => none }
def fnExactWithoutRestsRow : OpenClaim := { program := "ytbpipmkgclkhgaa", sum := "98b0fa2d044329d4c54920482aefbf1022b9903e201f188a673684bfac7da749", func := "loop.example/g01260/laws.FnExactWithoutRests", spec := "fnExactWithoutRests", unfollowed := true, recurses := true, apart := false }
def FnExactWithoutRestsSaid : Prop := fnExactWithoutRestsRow.holds Try.pinned (OpenSpec.ofChange fnExactWithoutRestsSpec)

/-- ITS FALSE NEIGHBOUR: 'it returns false'. Refute it at one input. -/
def fnExactWithoutRestsWrong : ChangeSpec := { name := "fnExactWithoutRests", fn := fun _ => fun
  | [d1, d2] => { results := [.lit (.bool false)], args := [d1, d2] }
  | _ => none }
def FnExactWithoutRestsWrongFalsely : Prop := fnExactWithoutRestsRow.holds Try.pinned (OpenSpec.ofChange fnExactWithoutRestsWrong)

/-- 'laws.FnExactStrictSum': WHATEVER THE INPUT: true; the input reads as it did. -/
def fnExactStrictSumSpec : ChangeSpec := { name := "fnExactStrictSum", fn := fun _ => fun
  | [d1, d2, d3] => { results := [.lit (.bool true)], args := [d1, d2, d3] }
  | _ => none }
def fnExactStrictSumRow : OpenClaim := { program := "ytbpipmkgclkhgaa", sum := "98b0fa2d044329d4c54920482aefbf1022b9903e201f188a673684bfac7da749", func := "loop.example/g01260/laws.FnExactStrictSum", spec := "fnExactStrictSum", unfollowed := true, recurses := true, apart := false }
def FnExactStrictSumSaid : Prop := fnExactStrictSumRow.holds Try.pinned (OpenSpec.ofChange fnExactStrictSumSpec)

/-- ITS FALSE NEIGHBOUR: 'it returns false'. Refute it at one input. -/
def fnExactStrictSumWrong : ChangeSpec := { name := "fnExactStrictSum", fn := fun _ => fun
  | [d1, d2, d3] => { results := [.lit (.bool false)], args := [d1, d2, d3] }
  | _ => none }
def FnExactStrictSumWrongFalsely : Prop := fnExactStrictSumRow.holds Try.pinned (OpenSpec.ofChange fnExactStrictSumWrong)

/-- 'laws.FnExactWeakSum': WHATEVER THE INPUT: true; the input reads as it did. -/
def fnExactWeakSumSpec : ChangeSpec := { name := "fnExactWeakSum", fn := fun _ => fun
  | [d1, d2, d3] => { results := [.lit (.bool true)], args := [d1, d2, d3] }
  | _ => none }
def fnExactWeakSumRow : OpenClaim := { program := "ytbpipmkgclkhgaa", sum := "98b0fa2d044329d4c54920482aefbf1022b9903e201f188a673684bfac7da749", func := "loop.example/g01260/laws.FnExactWeakSum", spec := "fnExactWeakSum", unfollowed := true, recurses := true, apart := false }
def FnExactWeakSumSaid : Prop := fnExactWeakSumRow.holds Try.pinned (OpenSpec.ofChange fnExactWeakSumSpec)

/-- ITS FALSE NEIGHBOUR: 'it returns false'. Refute it at one input. -/
def fnExactWeakSumWrong : ChangeSpec := { name := "fnExactWeakSum", fn := fun _ => fun
  | [d1, d2, d3] => { results := [.lit (.bool false)], args := [d1, d2, d3] }
  | _ => none }
def FnExactWeakSumWrongFalsely : Prop := fnExactWeakSumRow.holds Try.pinned (OpenSpec.ofChange fnExactWeakSumWrong)

/-- 'laws.FnExactSameSums': WHATEVER THE INPUT: true; the input reads as it did. -/
def fnExactSameSumsSpec : ChangeSpec := { name := "fnExactSameSums", fn := fun _ => fun
  | [d1, d2, d3, d4] => { results := [.lit (.bool true)], args := [d1, d2, d3, d4] }
  | _ => none }
def fnExactSameSumsRow : OpenClaim := { program := "ytbpipmkgclkhgaa", sum := "98b0fa2d044329d4c54920482aefbf1022b9903e201f188a673684bfac7da749", func := "loop.example/g01260/laws.FnExactSameSums", spec := "fnExactSameSums", unfollowed := true, recurses := true, apart := false }
def FnExactSameSumsSaid : Prop := fnExactSameSumsRow.holds Try.pinned (OpenSpec.ofChange fnExactSameSumsSpec)

/-- ITS FALSE NEIGHBOUR: 'it returns false'. Refute it at one input. -/
def fnExactSameSumsWrong : ChangeSpec := { name := "fnExactSameSums", fn := fun _ => fun
  | [d1, d2, d3, d4] => { results := [.lit (.bool false)], args := [d1, d2, d3, d4] }
  | _ => none }
def FnExactSameSumsWrongFalsely : Prop := fnExactSameSumsRow.holds Try.pinned (OpenSpec.ofChange fnExactSameSumsWrong)

/- THE SECOND FORM. 'bulk': how many values and letters a reading holds, each counted each time it is reached (what is shared counts as often as it is met; a slice's spare places count too). A statement '..UptoSaid' is the law's where the arguments, and the package variables that the reading takes, are together of bulk at most 1048576: NARROWER than '..Said'. Prove '..Said' where nothing that the law and all that it calls make is longer than what came in: it says more and counts as full. Else prove '..UptoSaid'. A law counts once. -/
mutual
def uptoBulk {H : Type} : DataW H → Nat
  | .lit (.string bytes) => bytes.length + 1
  | .lit _ => 1
  | .nil => 1
  | .ptr d => uptoBulk d + 1
  | .slice elems spare => uptoBulkAll elems + uptoBulkAll spare + 1
  | .agg parts => uptoBulkAll parts + 1
  | .iface _ d => uptoBulk d + 1
  | .map entries => uptoBulkEntries entries + 1
  | .held _ => 1
def uptoBulkAll {H : Type} : List (DataW H) → Nat
  | [] => 0
  | d :: r => uptoBulk d + uptoBulkAll r
def uptoBulkEntries {H : Type} : List (Lit × DataW H) → Nat
  | [] => 0
  | x :: r => uptoBulkEntry x + uptoBulkEntries r
def uptoBulkEntry {H : Type} : Lit × DataW H → Nat
  | (.string bytes, d) => bytes.length + uptoBulk d + 1
  | (_, d) => uptoBulk d + 1
 end
def uptoSmall : (H : Type) → List (DataW H) → Bool := fun _ ds => decide (uptoBulkAll ds ≤ 1048576)
def OpenSpec.upto (s : _root_.Go.ChangeSpec) : _root_.Go.OpenSpec := { _root_.Go.OpenSpec.ofChange s with cond := some uptoSmall }

/-- 'laws.FnExactTurnTables', WHERE WHAT IT READS IS OF BULK AT MOST 1048576: true; the input reads as it did. -/
def fnExactTurnTablesUptoRow : OpenClaim := { program := "ytbpipmkgclkhgaa", sum := "98b0fa2d044329d4c54920482aefbf1022b9903e201f188a673684bfac7da749", func := "loop.example/g01260/laws.FnExactTurnTables", spec := "fnExactTurnTables", apart := false, narrowed := true }
def FnExactTurnTablesUptoSaid : Prop := fnExactTurnTablesUptoRow.holds Try.pinned (OpenSpec.upto fnExactTurnTablesSpec)

/-- 'laws.FnExactAreTables', WHERE WHAT IT READS IS OF BULK AT MOST 1048576: true; the input reads as it did. -/
def fnExactAreTablesUptoRow : OpenClaim := { program := "ytbpipmkgclkhgaa", sum := "98b0fa2d044329d4c54920482aefbf1022b9903e201f188a673684bfac7da749", func := "loop.example/g01260/laws.FnExactAreTables", spec := "fnExactAreTables", unfollowed := true, recurses := true, apart := false, narrowed := true }
def FnExactAreTablesUptoSaid : Prop := fnExactAreTablesUptoRow.holds Try.pinned (OpenSpec.upto fnExactAreTablesSpec)

/-- 'laws.FnExactTablesOfWord', WHERE WHAT IT READS IS OF BULK AT MOST 1048576: true; the input reads as it did. -/
def fnExactTablesOfWordUptoRow : OpenClaim := { program := "ytbpipmkgclkhgaa", sum := "98b0fa2d044329d4c54920482aefbf1022b9903e201f188a673684bfac7da749", func := "loop.example/g01260/laws.FnExactTablesOfWord", spec := "fnExactTablesOfWord", apart := false, narrowed := true }
def FnExactTablesOfWordUptoSaid : Prop := fnExactTablesOfWordUptoRow.holds Try.pinned (OpenSpec.upto fnExactTablesOfWordSpec)

/-- 'laws.FnExactDoTablesCommute', WHERE WHAT IT READS IS OF BULK AT MOST 1048576: true; the input reads as it did. -/
def fnExactDoTablesCommuteUptoRow : OpenClaim := { program := "ytbpipmkgclkhgaa", sum := "98b0fa2d044329d4c54920482aefbf1022b9903e201f188a673684bfac7da749", func := "loop.example/g01260/laws.FnExactDoTablesCommute", spec := "fnExactDoTablesCommute", unfollowed := true, recurses := true, apart := false, narrowed := true }
def FnExactDoTablesCommuteUptoSaid : Prop := fnExactDoTablesCommuteUptoRow.holds Try.pinned (OpenSpec.upto fnExactDoTablesCommuteSpec)

/-- 'laws.FnExactTableCommutator', WHERE WHAT IT READS IS OF BULK AT MOST 1048576: true; the input reads as it did. -/
def fnExactTableCommutatorUptoRow : OpenClaim := { program := "ytbpipmkgclkhgaa", sum := "98b0fa2d044329d4c54920482aefbf1022b9903e201f188a673684bfac7da749", func := "loop.example/g01260/laws.FnExactTableCommutator", spec := "fnExactTableCommutator", unfollowed := true, recurses := true, apart := false, narrowed := true }
def FnExactTableCommutatorUptoSaid : Prop := fnExactTableCommutatorUptoRow.holds Try.pinned (OpenSpec.upto fnExactTableCommutatorSpec)

/-- 'laws.FnExactVanishAt', WHERE WHAT IT READS IS OF BULK AT MOST 1048576: true; the input reads as it did. -/
def fnExactVanishAtUptoRow : OpenClaim := { program := "ytbpipmkgclkhgaa", sum := "98b0fa2d044329d4c54920482aefbf1022b9903e201f188a673684bfac7da749", func := "loop.example/g01260/laws.FnExactVanishAt", spec := "fnExactVanishAt", unfollowed := true, recurses := true, apart := false, narrowed := true }
def FnExactVanishAtUptoSaid : Prop := fnExactVanishAtUptoRow.holds Try.pinned (OpenSpec.upto fnExactVanishAtSpec)

/-- 'laws.FnExactProductOfWord', WHERE WHAT IT READS IS OF BULK AT MOST 1048576: true; the input reads as it did. -/
def fnExactProductOfWordUptoRow : OpenClaim := { program := "ytbpipmkgclkhgaa", sum := "98b0fa2d044329d4c54920482aefbf1022b9903e201f188a673684bfac7da749", func := "loop.example/g01260/laws.FnExactProductOfWord", spec := "fnExactProductOfWord", unfollowed := true, recurses := true, apart := false, narrowed := true }
def FnExactProductOfWordUptoSaid : Prop := fnExactProductOfWordUptoRow.holds Try.pinned (OpenSpec.upto fnExactProductOfWordSpec)

/-- 'laws.FnExactPowerSum', WHERE WHAT IT READS IS OF BULK AT MOST 1048576: true; the input reads as it did. -/
def fnExactPowerSumUptoRow : OpenClaim := { program := "ytbpipmkgclkhgaa", sum := "98b0fa2d044329d4c54920482aefbf1022b9903e201f188a673684bfac7da749", func := "loop.example/g01260/laws.FnExactPowerSum", spec := "fnExactPowerSum", unfollowed := true, recurses := true, apart := false, narrowed := true }
def FnExactPowerSumUptoSaid : Prop := fnExactPowerSumUptoRow.holds Try.pinned (OpenSpec.upto fnExactPowerSumSpec)

/-- 'laws.FnExactWithoutRests', WHERE WHAT IT READS IS OF BULK AT MOST 1048576: true; the input reads as it did. -/
def fnExactWithoutRestsUptoRow : OpenClaim := { program := "ytbpipmkgclkhgaa", sum := "98b0fa2d044329d4c54920482aefbf1022b9903e201f188a673684bfac7da749", func := "loop.example/g01260/laws.FnExactWithoutRests", spec := "fnExactWithoutRests", unfollowed := true, recurses := true, apart := false, narrowed := true }
def FnExactWithoutRestsUptoSaid : Prop := fnExactWithoutRestsUptoRow.holds Try.pinned (OpenSpec.upto fnExactWithoutRestsSpec)

/-- 'laws.FnExactStrictSum', WHERE WHAT IT READS IS OF BULK AT MOST 1048576: true; the input reads as it did. -/
def fnExactStrictSumUptoRow : OpenClaim := { program := "ytbpipmkgclkhgaa", sum := "98b0fa2d044329d4c54920482aefbf1022b9903e201f188a673684bfac7da749", func := "loop.example/g01260/laws.FnExactStrictSum", spec := "fnExactStrictSum", unfollowed := true, recurses := true, apart := false, narrowed := true }
def FnExactStrictSumUptoSaid : Prop := fnExactStrictSumUptoRow.holds Try.pinned (OpenSpec.upto fnExactStrictSumSpec)

/-- 'laws.FnExactWeakSum', WHERE WHAT IT READS IS OF BULK AT MOST 1048576: true; the input reads as it did. -/
def fnExactWeakSumUptoRow : OpenClaim := { program := "ytbpipmkgclkhgaa", sum := "98b0fa2d044329d4c54920482aefbf1022b9903e201f188a673684bfac7da749", func := "loop.example/g01260/laws.FnExactWeakSum", spec := "fnExactWeakSum", unfollowed := true, recurses := true, apart := false, narrowed := true }
def FnExactWeakSumUptoSaid : Prop := fnExactWeakSumUptoRow.holds Try.pinned (OpenSpec.upto fnExactWeakSumSpec)

/-- 'laws.FnExactSameSums', WHERE WHAT IT READS IS OF BULK AT MOST 1048576: true; the input reads as it did. -/
def fnExactSameSumsUptoRow : OpenClaim := { program := "ytbpipmkgclkhgaa", sum := "98b0fa2d044329d4c54920482aefbf1022b9903e201f188a673684bfac7da749", func := "loop.example/g01260/laws.FnExactSameSums", spec := "fnExactSameSums", unfollowed := true, recurses := true, apart := false, narrowed := true }
def FnExactSameSumsUptoSaid : Prop := fnExactSameSumsUptoRow.holds Try.pinned (OpenSpec.upto fnExactSameSumsSpec)

end Rows
end Go.Proofs.Ytbpipmkgclkhgaa
