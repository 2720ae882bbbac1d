/-
  No cell of these rows narrows 'for every input' (looked for: loops, veiled, ifaces, maps, wideKeys, modest, calm, conditions, laid).
  DERIVED. THE GIVEN ROWS OF THIS SEAT. 9 by the template 'for every input the law returns true; each argument reads behind the call as it read before'; 0 by the template 'total and deterministic' (their statements: YtcklefgkbddlhaaTotals.lean).
  GIVEN WITH THE SEED: the statements are not yours to turn. If you find one false, say at which input.
  Laid BY PROGRAM, IN A SANDBOX (cutbox-rows.mjs): the forced cells as the released guide's own fill.sh prints them over the translation abc8e145546f21b4… (all of the seat's roots in one cut). By AI agents, Wed Nov 11 2026. No macro, syntax, notation, axiom, sorry.
-/
import Derived.Test.YtcklefgkbddlhaaChecked
import GoSem.Claim
import GoSem.ClaimJoined
import GoSem.ClaimMapViews
import Derived.JoinedTies
import Derived.KernelRfl
namespace Go.Proofs.Ytcklefgkbddlhaa
/- THE CELL 'sum', in the pinned program and in every row, IS THE sha256 OF THE DUMP (.gsa) THAT YtcklefgkbddlhaaProg.lean LOADS. Nothing in Lean hashes anything: it is a label: what it is worth is what the hold of that sum in a sandbox is worth. -/
noncomputable def Try.pinned : Pinned := { name := "ytcklefgkbddlhaa", sum := "abc8e145546f21b4505c435c64f107c7fbbc9cd9a89e2611b971cf63a348e996", checked := Try.checked }
namespace Rows
def none {H : Type} : Left H := { results := [], args := [] }

/-- 'laws.FnExactReadByTables': WHATEVER THE INPUT: true; the input reads as it did. -/
def fnExactReadByTablesSpec : ChangeSpec := { name := "fnExactReadByTables", fn := fun _ => fun
  | [d1, d2] => { results := [.lit (.bool true)], args := [d1, d2] }
  | _ => none }
def fnExactReadByTablesRow : OpenClaim := { program := "ytcklefgkbddlhaa", sum := "abc8e145546f21b4505c435c64f107c7fbbc9cd9a89e2611b971cf63a348e996", func := "loop.example/g01260/laws.FnExactReadByTables", spec := "fnExactReadByTables", inPlace := ["internal/bytealg.abigen_runtime_cmpstring"], unfollowed := true, recurses := true, apart := false }
def FnExactReadByTablesSaid : Prop := fnExactReadByTablesRow.holds Try.pinned (OpenSpec.ofChange fnExactReadByTablesSpec)

/-- ITS FALSE NEIGHBOUR: 'it returns false'. Refute it at one input. -/
def fnExactReadByTablesWrong : ChangeSpec := { name := "fnExactReadByTables", fn := fun _ => fun
  | [d1, d2] => { results := [.lit (.bool false)], args := [d1, d2] }
  | _ => none }
def FnExactReadByTablesWrongFalsely : Prop := fnExactReadByTablesRow.holds Try.pinned (OpenSpec.ofChange fnExactReadByTablesWrong)

/-- 'laws.FnExactValueOfSeries': WHATEVER THE INPUT: true; the input reads as it did. -/
def fnExactValueOfSeriesSpec : ChangeSpec := { name := "fnExactValueOfSeries", fn := fun _ => fun
  | [d1, d2] => { results := [.lit (.bool true)], args := [d1, d2] }
  | _ => none }
def fnExactValueOfSeriesRow : OpenClaim := { program := "ytcklefgkbddlhaa", sum := "abc8e145546f21b4505c435c64f107c7fbbc9cd9a89e2611b971cf63a348e996", func := "loop.example/g01260/laws.FnExactValueOfSeries", spec := "fnExactValueOfSeries", inPlace := ["internal/bytealg.abigen_runtime_cmpstring"], unfollowed := true, recurses := true, apart := false }
def FnExactValueOfSeriesSaid : Prop := fnExactValueOfSeriesRow.holds Try.pinned (OpenSpec.ofChange fnExactValueOfSeriesSpec)

/-- ITS FALSE NEIGHBOUR: 'it returns false'. Refute it at one input. -/
def fnExactValueOfSeriesWrong : ChangeSpec := { name := "fnExactValueOfSeries", fn := fun _ => fun
  | [d1, d2] => { results := [.lit (.bool false)], args := [d1, d2] }
  | _ => none }
def FnExactValueOfSeriesWrongFalsely : Prop := fnExactValueOfSeriesRow.holds Try.pinned (OpenSpec.ofChange fnExactValueOfSeriesWrong)

/-- 'laws.FnExactDepthOfWord': WHATEVER THE INPUT: true; the input reads as it did. -/
def fnExactDepthOfWordSpec : ChangeSpec := { name := "fnExactDepthOfWord", fn := fun _ => fun
  | [d1, d2, d3] => { results := [.lit (.bool true)], args := [d1, d2, d3] }
  | _ => none }
def fnExactDepthOfWordRow : OpenClaim := { program := "ytcklefgkbddlhaa", sum := "abc8e145546f21b4505c435c64f107c7fbbc9cd9a89e2611b971cf63a348e996", func := "loop.example/g01260/laws.FnExactDepthOfWord", spec := "fnExactDepthOfWord", unfollowed := true, recurses := true, apart := false }
def FnExactDepthOfWordSaid : Prop := fnExactDepthOfWordRow.holds Try.pinned (OpenSpec.ofChange fnExactDepthOfWordSpec)

/-- ITS FALSE NEIGHBOUR: 'it returns false'. Refute it at one input. -/
def fnExactDepthOfWordWrong : ChangeSpec := { name := "fnExactDepthOfWord", fn := fun _ => fun
  | [d1, d2, d3] => { results := [.lit (.bool false)], args := [d1, d2, d3] }
  | _ => none }
def FnExactDepthOfWordWrongFalsely : Prop := fnExactDepthOfWordRow.holds Try.pinned (OpenSpec.ofChange fnExactDepthOfWordWrong)

/-- 'laws.FnExactSignatureOfWord': WHATEVER THE INPUT: true; the input reads as it did. -/
def fnExactSignatureOfWordSpec : ChangeSpec := { name := "fnExactSignatureOfWord", fn := fun _ => fun
  | [d1, d2, d3] => { results := [.lit (.bool true)], args := [d1, d2, d3] }
  | _ => none }
def fnExactSignatureOfWordRow : OpenClaim := { program := "ytcklefgkbddlhaa", sum := "abc8e145546f21b4505c435c64f107c7fbbc9cd9a89e2611b971cf63a348e996", func := "loop.example/g01260/laws.FnExactSignatureOfWord", spec := "fnExactSignatureOfWord", unfollowed := true, recurses := true, apart := false }
def FnExactSignatureOfWordSaid : Prop := fnExactSignatureOfWordRow.holds Try.pinned (OpenSpec.ofChange fnExactSignatureOfWordSpec)

/-- ITS FALSE NEIGHBOUR: 'it returns false'. Refute it at one input. -/
def fnExactSignatureOfWordWrong : ChangeSpec := { name := "fnExactSignatureOfWord", fn := fun _ => fun
  | [d1, d2, d3] => { results := [.lit (.bool false)], args := [d1, d2, d3] }
  | _ => none }
def FnExactSignatureOfWordWrongFalsely : Prop := fnExactSignatureOfWordRow.holds Try.pinned (OpenSpec.ofChange fnExactSignatureOfWordWrong)

/-- 'laws.FnExactLeadingPart': WHATEVER THE INPUT: true; the input reads as it did. -/
def fnExactLeadingPartSpec : ChangeSpec := { name := "fnExactLeadingPart", fn := fun _ => fun
  | [d1, d2, d3] => { results := [.lit (.bool true)], args := [d1, d2, d3] }
  | _ => none }
def fnExactLeadingPartRow : OpenClaim := { program := "ytcklefgkbddlhaa", sum := "abc8e145546f21b4505c435c64f107c7fbbc9cd9a89e2611b971cf63a348e996", func := "loop.example/g01260/laws.FnExactLeadingPart", spec := "fnExactLeadingPart", unfollowed := true, recurses := true, apart := false }
def FnExactLeadingPartSaid : Prop := fnExactLeadingPartRow.holds Try.pinned (OpenSpec.ofChange fnExactLeadingPartSpec)

/-- ITS FALSE NEIGHBOUR: 'it returns false'. Refute it at one input. -/
def fnExactLeadingPartWrong : ChangeSpec := { name := "fnExactLeadingPart", fn := fun _ => fun
  | [d1, d2, d3] => { results := [.lit (.bool false)], args := [d1, d2, d3] }
  | _ => none }
def FnExactLeadingPartWrongFalsely : Prop := fnExactLeadingPartRow.holds Try.pinned (OpenSpec.ofChange fnExactLeadingPartWrong)

/-- 'laws.FnExactWordOfSignature': WHATEVER THE INPUT: true; the input reads as it did. -/
def fnExactWordOfSignatureSpec : ChangeSpec := { name := "fnExactWordOfSignature", fn := fun _ => fun
  | [d] => { results := [.lit (.bool true)], args := [d] }
  | _ => none }
def fnExactWordOfSignatureRow : OpenClaim := { program := "ytcklefgkbddlhaa", sum := "abc8e145546f21b4505c435c64f107c7fbbc9cd9a89e2611b971cf63a348e996", func := "loop.example/g01260/laws.FnExactWordOfSignature", spec := "fnExactWordOfSignature", inPlace := ["internal/bytealg.abigen_runtime_cmpstring"], unfollowed := true, recurses := true, apart := false }
def FnExactWordOfSignatureSaid : Prop := fnExactWordOfSignatureRow.holds Try.pinned (OpenSpec.ofChange fnExactWordOfSignatureSpec)

/-- ITS FALSE NEIGHBOUR: 'it returns false'. Refute it at one input. -/
def fnExactWordOfSignatureWrong : ChangeSpec := { name := "fnExactWordOfSignature", fn := fun _ => fun
  | [d] => { results := [.lit (.bool false)], args := [d] }
  | _ => none }
def FnExactWordOfSignatureWrongFalsely : Prop := fnExactWordOfSignatureRow.holds Try.pinned (OpenSpec.ofChange fnExactWordOfSignatureWrong)

/-- 'laws.FnExactExchangeLetters': WHATEVER THE INPUT: true; the input reads as it did. -/
def fnExactExchangeLettersSpec : ChangeSpec := { name := "fnExactExchangeLetters", fn := fun _ => fun
  | [d1, d2] => { results := [.lit (.bool true)], args := [d1, d2] }
  | _ => none }
def fnExactExchangeLettersRow : OpenClaim := { program := "ytcklefgkbddlhaa", sum := "abc8e145546f21b4505c435c64f107c7fbbc9cd9a89e2611b971cf63a348e996", func := "loop.example/g01260/laws.FnExactExchangeLetters", spec := "fnExactExchangeLetters", inPlace := ["internal/bytealg.abigen_runtime_cmpstring"], apart := false }
def FnExactExchangeLettersSaid : Prop := fnExactExchangeLettersRow.holds Try.pinned (OpenSpec.ofChange fnExactExchangeLettersSpec)

/-- ITS FALSE NEIGHBOUR: 'it returns false'. Refute it at one input. -/
def fnExactExchangeLettersWrong : ChangeSpec := { name := "fnExactExchangeLetters", fn := fun _ => fun
  | [d1, d2] => { results := [.lit (.bool false)], args := [d1, d2] }
  | _ => none }
def FnExactExchangeLettersWrongFalsely : Prop := fnExactExchangeLettersRow.holds Try.pinned (OpenSpec.ofChange fnExactExchangeLettersWrong)

/-- 'laws.FnExactIsUnchanged': WHATEVER THE INPUT: true; the input reads as it did. -/
def fnExactIsUnchangedSpec : ChangeSpec := { name := "fnExactIsUnchanged", fn := fun _ => fun
  | [d1, d2] => { results := [.lit (.bool true)], args := [d1, d2] }
  | _ => none }
def fnExactIsUnchangedRow : OpenClaim := { program := "ytcklefgkbddlhaa", sum := "abc8e145546f21b4505c435c64f107c7fbbc9cd9a89e2611b971cf63a348e996", func := "loop.example/g01260/laws.FnExactIsUnchanged", spec := "fnExactIsUnchanged", inPlace := ["internal/bytealg.abigen_runtime_cmpstring"], unfollowed := true, recurses := true, apart := false }
def FnExactIsUnchangedSaid : Prop := fnExactIsUnchangedRow.holds Try.pinned (OpenSpec.ofChange fnExactIsUnchangedSpec)

/-- ITS FALSE NEIGHBOUR: 'it returns false'. Refute it at one input. -/
def fnExactIsUnchangedWrong : ChangeSpec := { name := "fnExactIsUnchanged", fn := fun _ => fun
  | [d1, d2] => { results := [.lit (.bool false)], args := [d1, d2] }
  | _ => none }
def FnExactIsUnchangedWrongFalsely : Prop := fnExactIsUnchangedRow.holds Try.pinned (OpenSpec.ofChange fnExactIsUnchangedWrong)

/-- 'laws.FnExactMapSeries': WHATEVER THE INPUT: true; the input reads as it did. -/
def fnExactMapSeriesSpec : ChangeSpec := { name := "fnExactMapSeries", fn := fun _ => fun
  | [d1, d2, d3] => { results := [.lit (.bool true)], args := [d1, d2, d3] }
  | _ => none }
def fnExactMapSeriesRow : OpenClaim := { program := "ytcklefgkbddlhaa", sum := "abc8e145546f21b4505c435c64f107c7fbbc9cd9a89e2611b971cf63a348e996", func := "loop.example/g01260/laws.FnExactMapSeries", spec := "fnExactMapSeries", inPlace := ["internal/bytealg.abigen_runtime_cmpstring"], unfollowed := true, recurses := true, apart := false }
def FnExactMapSeriesSaid : Prop := fnExactMapSeriesRow.holds Try.pinned (OpenSpec.ofChange fnExactMapSeriesSpec)

/-- ITS FALSE NEIGHBOUR: 'it returns false'. Refute it at one input. -/
def fnExactMapSeriesWrong : ChangeSpec := { name := "fnExactMapSeries", fn := fun _ => fun
  | [d1, d2, d3] => { results := [.lit (.bool false)], args := [d1, d2, d3] }
  | _ => none }
def FnExactMapSeriesWrongFalsely : Prop := fnExactMapSeriesRow.holds Try.pinned (OpenSpec.ofChange fnExactMapSeriesWrong)

/- THE SECOND FORM. 'bulk': how many values and letters a reading holds, each counted each time it is reached (what is shared counts as often as it is met; a slice's spare places count too). A statement '..UptoSaid' is the law's where the arguments, and the package variables that the reading takes, are together of bulk at most 1048576: NARROWER than '..Said'. Prove '..Said' where nothing that the law and all that it calls make is longer than what came in: it says more and counts as full. Else prove '..UptoSaid'. A law counts once. -/
mutual
def uptoBulk {H : Type} : DataW H → Nat
  | .lit (.string bytes) => bytes.length + 1
  | .lit _ => 1
  | .nil => 1
  | .ptr d => uptoBulk d + 1
  | .slice elems spare => uptoBulkAll elems + uptoBulkAll spare + 1
  | .agg parts => uptoBulkAll parts + 1
  | .iface _ d => uptoBulk d + 1
  | .map entries => uptoBulkEntries entries + 1
  | .held _ => 1
def uptoBulkAll {H : Type} : List (DataW H) → Nat
  | [] => 0
  | d :: r => uptoBulk d + uptoBulkAll r
def uptoBulkEntries {H : Type} : List (Lit × DataW H) → Nat
  | [] => 0
  | x :: r => uptoBulkEntry x + uptoBulkEntries r
def uptoBulkEntry {H : Type} : Lit × DataW H → Nat
  | (.string bytes, d) => bytes.length + uptoBulk d + 1
  | (_, d) => uptoBulk d + 1
 end
def uptoSmall : (H : Type) → List (DataW H) → Bool := fun _ ds => decide (uptoBulkAll ds ≤ 1048576)
def OpenSpec.upto (s : _root_.Go.ChangeSpec) : _root_.Go.OpenSpec := { _root_.Go.OpenSpec.ofChange s with cond := some uptoSmall }

/-- 'laws.FnExactReadByTables', WHERE WHAT IT READS IS OF BULK AT MOST 1048576: true; the input reads as it did. -/
def fnExactReadByTablesUptoRow : OpenClaim := { program := "ytcklefgkbddlhaa", sum := "abc8e145546f21b4505c435c64f107c7fbbc9cd9a89e2611b971cf63a348e996", func := "loop.example/g01260/laws.FnExactReadByTables", spec := "fnExactReadByTables", inPlace := ["internal/bytealg.abigen_runtime_cmpstring"], unfollowed := true, recurses := true, apart := false, narrowed := true }
def FnExactReadByTablesUptoSaid : Prop := fnExactReadByTablesUptoRow.holds Try.pinned (OpenSpec.upto fnExactReadByTablesSpec)

/-- 'laws.FnExactValueOfSeries', WHERE WHAT IT READS IS OF BULK AT MOST 1048576: true; the input reads as it did. -/
def fnExactValueOfSeriesUptoRow : OpenClaim := { program := "ytcklefgkbddlhaa", sum := "abc8e145546f21b4505c435c64f107c7fbbc9cd9a89e2611b971cf63a348e996", func := "loop.example/g01260/laws.FnExactValueOfSeries", spec := "fnExactValueOfSeries", inPlace := ["internal/bytealg.abigen_runtime_cmpstring"], unfollowed := true, recurses := true, apart := false, narrowed := true }
def FnExactValueOfSeriesUptoSaid : Prop := fnExactValueOfSeriesUptoRow.holds Try.pinned (OpenSpec.upto fnExactValueOfSeriesSpec)

/-- 'laws.FnExactDepthOfWord', WHERE WHAT IT READS IS OF BULK AT MOST 1048576: true; the input reads as it did. -/
def fnExactDepthOfWordUptoRow : OpenClaim := { program := "ytcklefgkbddlhaa", sum := "abc8e145546f21b4505c435c64f107c7fbbc9cd9a89e2611b971cf63a348e996", func := "loop.example/g01260/laws.FnExactDepthOfWord", spec := "fnExactDepthOfWord", unfollowed := true, recurses := true, apart := false, narrowed := true }
def FnExactDepthOfWordUptoSaid : Prop := fnExactDepthOfWordUptoRow.holds Try.pinned (OpenSpec.upto fnExactDepthOfWordSpec)

/-- 'laws.FnExactSignatureOfWord', WHERE WHAT IT READS IS OF BULK AT MOST 1048576: true; the input reads as it did. -/
def fnExactSignatureOfWordUptoRow : OpenClaim := { program := "ytcklefgkbddlhaa", sum := "abc8e145546f21b4505c435c64f107c7fbbc9cd9a89e2611b971cf63a348e996", func := "loop.example/g01260/laws.FnExactSignatureOfWord", spec := "fnExactSignatureOfWord", unfollowed := true, recurses := true, apart := false, narrowed := true }
def FnExactSignatureOfWordUptoSaid : Prop := fnExactSignatureOfWordUptoRow.holds Try.pinned (OpenSpec.upto fnExactSignatureOfWordSpec)

/-- 'laws.FnExactLeadingPart', WHERE WHAT IT READS IS OF BULK AT MOST 1048576: true; the input reads as it did. -/
def fnExactLeadingPartUptoRow : OpenClaim := { program := "ytcklefgkbddlhaa", sum := "abc8e145546f21b4505c435c64f107c7fbbc9cd9a89e2611b971cf63a348e996", func := "loop.example/g01260/laws.FnExactLeadingPart", spec := "fnExactLeadingPart", unfollowed := true, recurses := true, apart := false, narrowed := true }
def FnExactLeadingPartUptoSaid : Prop := fnExactLeadingPartUptoRow.holds Try.pinned (OpenSpec.upto fnExactLeadingPartSpec)

/-- 'laws.FnExactWordOfSignature', WHERE WHAT IT READS IS OF BULK AT MOST 1048576: true; the input reads as it did. -/
def fnExactWordOfSignatureUptoRow : OpenClaim := { program := "ytcklefgkbddlhaa", sum := "abc8e145546f21b4505c435c64f107c7fbbc9cd9a89e2611b971cf63a348e996", func := "loop.example/g01260/laws.FnExactWordOfSignature", spec := "fnExactWordOfSignature", inPlace := ["internal/bytealg.abigen_runtime_cmpstring"], unfollowed := true, recurses := true, apart := false, narrowed := true }
def FnExactWordOfSignatureUptoSaid : Prop := fnExactWordOfSignatureUptoRow.holds Try.pinned (OpenSpec.upto fnExactWordOfSignatureSpec)

/-- 'laws.FnExactExchangeLetters', WHERE WHAT IT READS IS OF BULK AT MOST 1048576: true; the input reads as it did. -/
def fnExactExchangeLettersUptoRow : OpenClaim := { program := "ytcklefgkbddlhaa", sum := "abc8e145546f21b4505c435c64f107c7fbbc9cd9a89e2611b971cf63a348e996", func := "loop.example/g01260/laws.FnExactExchangeLetters", spec := "fnExactExchangeLetters", inPlace := ["internal/bytealg.abigen_runtime_cmpstring"], apart := false, narrowed := true }
def FnExactExchangeLettersUptoSaid : Prop := fnExactExchangeLettersUptoRow.holds Try.pinned (OpenSpec.upto fnExactExchangeLettersSpec)

/-- 'laws.FnExactIsUnchanged', WHERE WHAT IT READS IS OF BULK AT MOST 1048576: true; the input reads as it did. -/
def fnExactIsUnchangedUptoRow : OpenClaim := { program := "ytcklefgkbddlhaa", sum := "abc8e145546f21b4505c435c64f107c7fbbc9cd9a89e2611b971cf63a348e996", func := "loop.example/g01260/laws.FnExactIsUnchanged", spec := "fnExactIsUnchanged", inPlace := ["internal/bytealg.abigen_runtime_cmpstring"], unfollowed := true, recurses := true, apart := false, narrowed := true }
def FnExactIsUnchangedUptoSaid : Prop := fnExactIsUnchangedUptoRow.holds Try.pinned (OpenSpec.upto fnExactIsUnchangedSpec)

/-- 'laws.FnExactMapSeries', WHERE WHAT IT READS IS OF BULK AT MOST 1048576: true; the input reads as it did. -/
def fnExactMapSeriesUptoRow : OpenClaim := { program := "ytcklefgkbddlhaa", sum := "abc8e145546f21b4505c435c64f107c7fbbc9cd9a89e2611b971cf63a348e996", func := "loop.example/g01260/laws.FnExactMapSeries", spec := "fnExactMapSeries", inPlace := ["internal/bytealg.abigen_runtime_cmpstring"], unfollowed := true, recurses := true, apart := false, narrowed := true }
def FnExactMapSeriesUptoSaid : Prop := fnExactMapSeriesUptoRow.holds Try.pinned (OpenSpec.upto fnExactMapSeriesSpec)

end Rows
end Go.Proofs.Ytcklefgkbddlhaa
